/- Package sets: word, one, join, and what is built on it, walked. No condition. -/
import Derived.Test.YtknmlikjmnhgkaaPAllx0
namespace Go.Proofs.Ytknmlikjmnhgkaa.P
open Go.RowKit Go.Proofs.YtknmlikjmnhgkaaW.PrintWords Go.Proofs.YtknmlikjmnhgkaaW.PrintLast Go.Proofs.YtknmlikjmnhgkaaW.PrintMore
attribute [local go_sem] max2_int min2_int max_two min_two max_three min_three max_four min_four   -- for this text's walks alone
set_option linter.unusedVariables false
set_option linter.unusedSimpArgs false

theorem infoU64 : (Try.prog.info? 37).map (fun i => (i.zero, i.size, i.bytes)) = some (some (.int .u64 0), 1, 8) := by kernel_rfl
/-- word k of a set -/
def wordAt (l : List Int) (k : Nat) : Int := if k < 64 then l.getD k 0 else 0
def sets_Set_word.f (l0 : List Int) (a1 : Int) : Option Int := if 0 ≤ a1 then some (wordAt l0 a1.toNat) else none
set_option maxHeartbeats 2000000 in
set_option maxRecDepth 100000 in
theorem sets_Set_word.calls (A0 : Option Addr) (c0 : Nat) (l0 : List Int) (a1 : Int) (r : Int) (w : World) (hr0 : Kd.C (Kd.int .u64) w A0 l0.length l0) (hc0 : l0.length ≤ c0) (h : sets_Set_word.f l0 a1 = some r) :
    Calls Try.prog 59 #[.slice A0 l0.length c0, .int .i64 a1] w fun e w' => e = .returned (.int .u64 r) ∧ w = w' := by
  unfold sets_Set_word.f at h
  split at h
  case isFalse => cases h
  rename_i h0
  obtain rfl := Option.some.inj h
  clear h hc0
  have HR := Aside0.mk hr0
  clear hr0
  obtain ⟨mj, hmj⟩ : ∃ m : Int, (if 64 < (l0.length : Int) then 64 else (l0.length : Int)) = m := ⟨_, rfl⟩
  by_cases h1 : a1 < 64 ∧ a1 < (l0.length : Int)
  · obtain ⟨h2, h3⟩ := h1
    obtain ⟨ad, rfl, hx⟩ := Kd.at_int HR.out a1 h0 h3
    have e1 : wordAt l0 a1.toNat = rd l0 a1 := by unfold wordAt rd; rw [if_pos (by omega)]
    rw [e1]
    have c1 : decide (a1 < mj) = true := decide_eq_true (by rw [← hmj]; split <;> omega)
    go_enter Try.func59, Try.ntmps59
    go_wp2
    go_ret
    exact ⟨rfl, rfl⟩
  · have e1 : wordAt l0 a1.toNat = 0 := by
      unfold wordAt
      by_cases h2 : a1.toNat < 64
      · rw [if_pos h2, List.getD_eq_getElem?_getD, List.getElem?_eq_none (by omega)]; rfl
      · rw [if_neg h2]
    rw [e1]
    have c1 : decide (a1 < mj) = false := decide_eq_false (by rw [← hmj]; split <;> omega)
    clear h1
    go_enter Try.func59, Try.ntmps59
    go_wp2
    go_ret
    exact ⟨rfl, rfl⟩

/-- A call of a function value that a variable holds, as an arm of a plain region. -/
theorem goesLT_ {P : Program} {ops : Array Oper} {Q : Exit → Act → World → Prop} {rest : List Oper} {oi : Oper} {a : Act} {w : World} (T : Tmp) (N : Option Tmp) (hd : oi.dst = N) (hg : oi.guard = none) {f : FuncId} {fn : Func} {xs : Array Operand} {ts : Array TypeId} (hf : P.funcs[f]? = some fn) (hname : (fn.name == "runtime.NumGoroutine") = false) (hb : fn.body.isSome = true) (args : Array Value)
    (hop : oi.op = .call { callee := .value (.tmp T), args := xs, argTypes := ts }) (hev : a.eval (.tmp T) = .func (.func f) #[] #[]) (hargs : xs.map a.eval = args)
    (h : Calls P f args w fun e w' => ∃ v, e = .returned v ∧ wpList P ops Q rest (a.put N v) w') : wpList P ops Q (oi :: rest) a w := by
  refine wpList_plain hg fun K hK => ?_
  have he := enters_ hf hname hb args w
  have hrun : (execOp a.eval oi).run P w = .ok (.enter f args) w := by
    unfold execOp
    simp [hop, resolve, Deferred.ofValue, invoke, hev, hargs, he]
  unfold Oper.wp
  rw [hrun, Oper.upon_enter]
  refine h.mono fun e w'' hh => ?_
  obtain ⟨v, rfl, hk⟩ := hh
  subst hd
  exact hK _ _ hk
theorem gate_value {P : Program} {ops : Array Oper} {rest : List Oper} {o : Oper} {a : Act} {Q : Exit → Act → World → Prop} {W : World} {T : Tmp} {xs : Array Operand} {ts : Array TypeId} (_ho : o.op = .call { callee := .value (.tmp T), args := xs, argTypes := ts }) (h : wpList P ops Q (o :: rest) a W) : wpList P ops Q (o :: rest) a W := h
/-- the words that F makes of those of two sets -/
def joinW (F : Int → Int → Int) (a b : List Int) : Nat → List Int
  | 0 => []
  | k + 1 => joinW F a b k ++ [F (wordAt a k) (wordAt b k)]
def joinN (a b : List Int) : Nat := min (max a.length b.length) 64
/-- without the words 0 at the end -/
def strip : List Int → List Int
  | [] => []
  | x :: l => if strip l = [] ∧ x = 0 then [] else x :: strip l
def sets_join.f (F : Int → Int → Int) (a b : List Int) : List Int := strip (joinW F a b (joinN a b))
theorem joinW_length (F : Int → Int → Int) (a b : List Int) (k : Nat) : (joinW F a b k).length = k := by
  induction k with
  | zero => rfl
  | succ k ih => simp [joinW, ih]
theorem strip_snoc_zero (l : List Int) : strip (l ++ [0]) = strip l := by
  induction l with
  | nil => rfl
  | cons x l ih => simp only [List.cons_append, strip, ih]
theorem strip_snoc (l : List Int) (x : Int) (h : x ≠ 0) : strip (l ++ [x]) = l ++ [x] := by
  induction l with
  | nil => simp [strip, h]
  | cons y l ih => simp only [List.cons_append, strip, ih]; simp
set_option maxHeartbeats 8000000 in
set_option maxRecDepth 100000 in
theorem sets_join.calls (F : Int → Int → Int) (fid : Nat) (fn : Func) (hf : Try.prog.funcs[fid]? = some fn) (hname : (fn.name == "runtime.NumGoroutine") = false) (hb : fn.body.isSome = true) (HF : ∀ x y w, Calls Try.prog fid #[.int .u64 x, .int .u64 y] w fun e w' => e = .returned (.int .u64 (F x y)) ∧ w = w')
    (A0 : Option Addr) (c0 : Nat) (l0 : List Int) (A1 : Option Addr) (c1 : Nat) (l1 : List Int) (w : World) (hr0 : Kd.C (Kd.int .u64) w A0 l0.length l0) (hc0 : l0.length ≤ c0) (hr1 : Kd.C (Kd.int .u64) w A1 l1.length l1) (hc1 : l1.length ≤ c1) :
    Calls Try.prog 52 #[.slice A0 l0.length c0, .slice A1 l1.length c1, .func (.func fid) #[] #[]] w fun e w' => ∃ v0_ : Value, e = .returned v0_ ∧ Kd.R (Kd.int .u64) 37 w' w.heap.size (fun _ => True) v0_ (sets_join.f F l0 l1) ∧ Below w.heap.size w w' := by
  have H0 := Aside0.mk hr0
  have H1 := Aside0.mk hr1
  have HC0 := Aside0.mk hc0
  have HC1 := Aside0.mk hc1
  have HFA := Aside0.mk HF
  have HB := Aside0.mk (Below.refl w.heap.size w)
  obtain ⟨mx, hmx⟩ : ∃ m : Int, (if l0.length < l1.length then (l1.length : Int) else (l0.length : Int)) = m := ⟨_, rfl⟩
  have hmx2 : (if (l0.length : Int) < (l1.length : Int) then (l1.length : Int) else (l0.length : Int)) = mx := by rw [← hmx]; (repeat' split) <;> omega
  obtain ⟨m, hm⟩ : ∃ m : Int, (if 64 < mx then 64 else mx) = m := ⟨_, rfl⟩
  have HM := Aside0.mk (show m = ((joinN l0 l1 : Nat) : Int) by rw [← hm, ← hmx]; unfold joinN; (repeat' split) <;> omega)
  have hm64 : m ≤ 64 := by rw [← hm]; split <;> omega
  have hm0 : 0 ≤ m := by rw [← hm, ← hmx]; (repeat' split) <;> omega
  have HN := Aside0.mk (And.intro hf (And.intro hname hb))
  clear hr0 hr1 hc0 hc1 HF hf hname hb
  go_enter Try.func52, Try.ntmps52
  go_wp2
  go_loopg [7, 15] m.toNat (fun kq v7 v15 w' => ∃ (i : Int), v15 = .int .i64 i ∧ Aside0 (i + (kq : Int) = m ∧ 0 ≤ i) ∧ Aside0 (Kd.R (Kd.int .u64) 37 w' w.heap.size (fun _ => True) v7 (joinW F l0 l1 i.toNat)) ∧ Aside0 (Below w.heap.size w w'))
  case atStart => exact ⟨0, rfl, ⟨by omega⟩, ⟨Kd.R_nil _ _ _ _ _⟩, HB⟩
  case round =>
    clear HB hmx hmx2 hm
    obtain ⟨i, rfl, HI, HO, HB⟩ := hrel
    have f0 : 0 ≤ i := HI.out.2
    have f1 : i ≤ 64 := by have := HI.out.1; omega
    cases gk with
    | zero =>
      have d1 : decide (i < m) = false := decide_eq_false (by have := HI.out.1; omega)
      have hi : i.toNat = joinN l0 l1 := by have := HI.out.1; have := HM.out; omega
      have hlen := joinW_length F l0 l1 (joinN l0 l1)
      have hO := HO.out
      rw [hi] at hO
      obtain ⟨A7, c7, rfl, hlc7, _⟩ := Kd.R_reads hO
      have HLC := Aside0.mk hlc7
      clear hlc7
      have HO2 := Aside0.mk hO
      have HJ := Aside0.mk (show ∃ L, L = joinW F l0 l1 (joinN l0 l1) ∧ L.length ≤ 64 from ⟨_, rfl, by rw [hlen]; unfold joinN; omega⟩)
      clear hO hlen hi HO
      go_wp2
      go_loopg [7] (joinN l0 l1) (fun kq v7 w' => ∃ (L : List Int) (A : Option Addr) (c : Nat), v7 = .slice A kq c ∧ Aside0 (L.length = kq ∧ kq ≤ 64 ∧ kq ≤ c ∧ strip L = sets_join.f F l0 l1) ∧ Aside0 (Kd.R (Kd.int .u64) 37 w' w.heap.size (fun _ => True) (.slice A kq c) L) ∧ Aside0 (Below w.heap.size w w'))
      case atStart => exact ⟨joinW F l0 l1 (joinN l0 l1), A7, c7, by rw [joinW_length], ⟨joinW_length _ _ _ _, by unfold joinN; omega, by have := HLC.out; rw [joinW_length] at this; exact this, rfl⟩, ⟨by have := HO2.out; rw [joinW_length] at this; exact this⟩, HB⟩
      case round =>
        clear HB HO2 HJ d1 HLC
        obtain ⟨L, A, c, rfl, HL, HO, HB⟩ := hrel
        cases gk with
        | zero =>
          obtain rfl : L = [] := List.eq_nil_of_length_eq_zero HL.out.1
          go_wp2
          go_ret
          exact ⟨_, rfl, by rw [← HL.out.2.2.2]; exact HO.out, HB.out⟩
        | succ k1 =>
          obtain ⟨M, x, rfl⟩ : ∃ M x, L = M ++ [x] := ⟨L.dropLast, L.getLast (by intro h; rw [h] at HL; have := HL.out.1; simp at this), (List.dropLast_concat_getLast _).symm⟩
          have hM : M.length = k1 := by have := HL.out.1; simp at this; exact this
          obtain ⟨b, cap, e, hbb, hbs, cells, hcells⟩ := Kd.R_form HO.out (by simp)
          injection e with eA en ec
          subst eA
          subst ec
          clear en
          obtain ⟨hx0, hx1⟩ := Kd.R_celln 0 HO.out ((k1 : Nat) : Int) (by omega) (by push_cast; omega)
          have ex : rdOf 0 (M ++ [x]) ((k1 : Nat) : Int) = x := by
            unfold rdOf
            rw [show (((k1 : Nat) : Int)).toNat = M.length from by omega, List.getD_eq_getElem?_getD, List.getElem?_append_right (Nat.le_refl _)]
            simp
          rw [ex] at hx0
          have f5 : k1 ≤ 64 := by have := HL.out.2.1; omega
          clear hbb hbs hcells hx1 ex
          simp only [Int.toNat_natCast] at hx0
          have HMM := Aside0.mk hM
          clear hM
          by_cases hx : x = 0
          · subst hx
            have g5 : k1 ≤ c := by have := HL.out.2.2.1; omega
            go_wp2
            go_roundg k1
            case rel =>
              refine ⟨M, some ⟨b, 0, none⟩, c, rfl, ⟨HMM.out, by omega, g5, ?_⟩, ⟨?_⟩, HB⟩
              · rw [← HL.out.2.2.2, strip_snoc_zero]
              · have h6 := Kd.R_take (m := k1) HO.out (by simp; have := HMM.out; omega)
                rw [show (M ++ [(0 : Int)]).take k1 = M from by rw [← HMM.out]; simp] at h6
                exact h6
            case measure => exact Nat.lt_succ_self _
          · have hx2 : (x == 0) = false := by simpa using hx
            clear hx
            go_wp2
            go_ret
            refine ⟨_, rfl, ?_, HB.out⟩
            have hs := HL.out.2.2.2
            rw [strip_snoc M x (by simpa using hx2)] at hs
            rw [← hs]
            exact HO.out
    | succ k1 =>
      have d1 : decide (i < m) = true := decide_eq_true (by have := HI.out.1; omega)
      obtain ⟨x, hx⟩ : ∃ x, F (wordAt l0 i.toNat) (wordAt l1 i.toNat) = x := ⟨_, rfl⟩
      have HX := Aside0.mk hx
      have HW0 := Aside0.mk (show sets_Set_word.f l0 i = some (wordAt l0 i.toNat) by unfold sets_Set_word.f; rw [if_pos f0])
      have HW1 := Aside0.mk (show sets_Set_word.f l1 i = some (wordAt l1 i.toNat) by unfold sets_Set_word.f; rw [if_pos f0])
      obtain ⟨y0, hy0⟩ : ∃ y, wordAt l0 i.toNat = y := ⟨_, rfl⟩
      obtain ⟨y1, hy1⟩ : ∃ y, wordAt l1 i.toNat = y := ⟨_, rfl⟩
      have HY := Aside0.mk (And.intro hy0 hy1)
      clear hx hy0 hy1
      go_wp2_with (first
        | ((with_reducible refine gate_callee (f := 59) rfl ?_); refine goesL_ (some 22) rfl rfl Try.func59 (by kernel_rfl) rfl #[.slice A0 l0.length c0, .int .i64 i] rfl (by (try simp only [List.map_toArray, List.map_cons, List.map_nil]); first | done | rfl) ?_; (with_reducible refine (sets_Set_word.calls A0 c0 l0 i y0 _ (Kd.C_below H0.out HB.out) HC0.out (by rw [HW0.out, HY.out.1])).mono ?_); rintro e w5 ⟨rfl, rfl⟩; refine ⟨_, rfl, ?_⟩)
        | ((with_reducible refine gate_callee (f := 59) rfl ?_); refine goesL_ (some 25) rfl rfl Try.func59 (by kernel_rfl) rfl #[.slice A1 l1.length c1, .int .i64 i] rfl (by (try simp only [List.map_toArray, List.map_cons, List.map_nil]); first | done | rfl) ?_; (with_reducible refine (sets_Set_word.calls A1 c1 l1 i y1 _ (Kd.C_below H1.out HB.out) HC1.out (by rw [HW1.out, HY.out.2])).mono ?_); rintro e w5 ⟨rfl, rfl⟩; refine ⟨_, rfl, ?_⟩)
        | ((with_reducible refine gate_value (T := 19) rfl ?_); refine goesLT_ 19 (some 26) rfl rfl HN.out.1 HN.out.2.1 HN.out.2.2 #[.int .u64 y0, .int .u64 y1] rfl (by first | rfl | (simp [Act.eval, Act.put]; done)) (by (try simp only [List.map_toArray, List.map_cons, List.map_nil]); first | done | rfl) ?_; (with_reducible refine (HFA.out y0 y1 _).mono ?_); rintro e w5 ⟨rfl, rfl⟩; refine ⟨_, rfl, ?_⟩)
        | ((with_reducible refine gate_builtin (b := .append) (xs := #[.tmp 18, .tmp 27]) rfl ?_); at_builtin; refine Kd.R_append (Kd.int .u64) (w0 := w) w.heap.size rfl (.tmp 18) (.tmp 27) 36 37 (.int .u64 0) 8 rfl Try.underlying36 infoU64 rfl (by decide) (by omega) _ (joinW F l0 l1 i.toNat) (F y0 y1) [.int .u64 (F y0 y1)] (fun _ => True) (fun _ => False) rfl rfl ?aP (fun _ hk => hk.elim) ?aF ?aO ?aB ?aS ?aL ?_; (case aP => exact rfl); (case aB => exact HB.out); (case aF => exact (fun _ _ => trivial)); (case aO => exact HO.out); (case aS => exact HB.out.size); (case aL => rw [joinW_length]; omega); intro v1 w1 ho hb hg hat; have n1 := Aside0.mk ho; have n2 := Aside0.mk hb; clear HO HB ho hb hg hat; have HO := n1; have HB := n2; clear n1 n2))
      go_roundg k1
      case rel =>
        refine ⟨i + 1, rfl, ⟨by have := HI.out.1; omega⟩, ⟨?_⟩, HB⟩
        rw [show (i + 1).toNat = i.toNat + 1 from by omega]
        simp only [joinW]
        rw [HY.out.1, HY.out.2]
        exact HO.out
      case measure => exact Nat.lt_succ_self _

theorem sets_Either_1.calls (x y : Int) (w : World) : Calls Try.prog 53 #[.int .u64 x, .int .u64 y] w fun e w' => e = .returned (.int .u64 (Go.bits .or .u64 x y)) ∧ w = w' := by
  go_enter Try.func53, Try.ntmps53
  go_wp2
  go_ret
  exact ⟨rfl, rfl⟩
def sets_Set_Either.f (a b : List Int) : Option (List Int) := some (sets_join.f (fun x y => Go.bits .or .u64 x y) a b)
set_option maxHeartbeats 2000000 in
set_option maxRecDepth 100000 in
theorem sets_Set_Either.calls (A0 : Option Addr) (c0 : Nat) (l0 : List Int) (A1 : Option Addr) (c1 : Nat) (l1 : List Int) (r : List Int) (w : World) (hr0 : Kd.C (Kd.int .u64) w A0 l0.length l0) (hc0 : l0.length ≤ c0) (hr1 : Kd.C (Kd.int .u64) w A1 l1.length l1) (hc1 : l1.length ≤ c1) (h : sets_Set_Either.f l0 l1 = some r) :
    Calls Try.prog 21 #[.slice A0 l0.length c0, .slice A1 l1.length c1] w fun e w' => ∃ v0_ : Value, e = .returned v0_ ∧ Kd.R (Kd.int .u64) 37 w' w.heap.size (fun _ => True) v0_ r ∧ Below w.heap.size w w' := by
  obtain rfl := Option.some.inj h
  clear h
  have H0 := Aside0.mk hr0
  have H1 := Aside0.mk hr1
  have HC0 := Aside0.mk hc0
  have HC1 := Aside0.mk hc1
  clear hr0 hr1 hc0 hc1
  go_enter Try.func21, Try.ntmps21
  go_wp2_with ((with_reducible refine gate_callee (f := 52) rfl ?_); refine goesL_ (some 7) rfl rfl Try.func52 (by kernel_rfl) rfl #[.slice A0 l0.length c0, .slice A1 l1.length c1, .func (.func 53) #[] #[]] rfl (by (try simp only [List.map_toArray, List.map_cons, List.map_nil]); first | done | rfl) ?_; (with_reducible refine (sets_join.calls (fun x y => Go.bits .or .u64 x y) 53 Try.f53 Try.func53 (by kernel_rfl) rfl sets_Either_1.calls A0 c0 l0 A1 c1 l1 _ H0.out HC0.out H1.out HC1.out).mono ?_); rintro e w5 ⟨v5, rfl, ho, hb⟩; refine ⟨_, rfl, ?_⟩; have HO := Aside0.mk ho; have HB := Aside0.mk hb; clear ho hb)
  go_ret
  exact ⟨_, rfl, HO.out, HB.out⟩

theorem sets_Both_1.calls (x y : Int) (w : World) : Calls Try.prog 54 #[.int .u64 x, .int .u64 y] w fun e w' => e = .returned (.int .u64 (Go.bits .and .u64 x y)) ∧ w = w' := by
  go_enter Try.func54, Try.ntmps54
  go_wp2
  go_ret
  exact ⟨rfl, rfl⟩
def sets_Set_Both.f (a b : List Int) : Option (List Int) := some (sets_join.f (fun x y => Go.bits .and .u64 x y) a b)
set_option maxHeartbeats 2000000 in
set_option maxRecDepth 100000 in
theorem sets_Set_Both.calls (A0 : Option Addr) (c0 : Nat) (l0 : List Int) (A1 : Option Addr) (c1 : Nat) (l1 : List Int) (r : List Int) (w : World) (hr0 : Kd.C (Kd.int .u64) w A0 l0.length l0) (hc0 : l0.length ≤ c0) (hr1 : Kd.C (Kd.int .u64) w A1 l1.length l1) (hc1 : l1.length ≤ c1) (h : sets_Set_Both.f l0 l1 = some r) :
    Calls Try.prog 22 #[.slice A0 l0.length c0, .slice A1 l1.length c1] w fun e w' => ∃ v0_ : Value, e = .returned v0_ ∧ Kd.R (Kd.int .u64) 37 w' w.heap.size (fun _ => True) v0_ r ∧ Below w.heap.size w w' := by
  obtain rfl := Option.some.inj h
  clear h
  have H0 := Aside0.mk hr0
  have H1 := Aside0.mk hr1
  have HC0 := Aside0.mk hc0
  have HC1 := Aside0.mk hc1
  clear hr0 hr1 hc0 hc1
  go_enter Try.func22, Try.ntmps22
  go_wp2_with ((with_reducible refine gate_callee (f := 52) rfl ?_); refine goesL_ (some 7) rfl rfl Try.func52 (by kernel_rfl) rfl #[.slice A0 l0.length c0, .slice A1 l1.length c1, .func (.func 54) #[] #[]] rfl (by (try simp only [List.map_toArray, List.map_cons, List.map_nil]); first | done | rfl) ?_; (with_reducible refine (sets_join.calls (fun x y => Go.bits .and .u64 x y) 54 Try.f54 Try.func54 (by kernel_rfl) rfl sets_Both_1.calls A0 c0 l0 A1 c1 l1 _ H0.out HC0.out H1.out HC1.out).mono ?_); rintro e w5 ⟨v5, rfl, ho, hb⟩; refine ⟨_, rfl, ?_⟩; have HO := Aside0.mk ho; have HB := Aside0.mk hb; clear ho hb)
  go_ret
  exact ⟨_, rfl, HO.out, HB.out⟩

theorem sets_Minus_1.calls (x y : Int) (w : World) : Calls Try.prog 55 #[.int .u64 x, .int .u64 y] w fun e w' => e = .returned (.int .u64 (Go.bits .andNot .u64 x y)) ∧ w = w' := by
  go_enter Try.func55, Try.ntmps55
  go_wp2
  go_ret
  exact ⟨rfl, rfl⟩
def sets_Set_Minus.f (a b : List Int) : Option (List Int) := some (sets_join.f (fun x y => Go.bits .andNot .u64 x y) a b)
set_option maxHeartbeats 2000000 in
set_option maxRecDepth 100000 in
theorem sets_Set_Minus.calls (A0 : Option Addr) (c0 : Nat) (l0 : List Int) (A1 : Option Addr) (c1 : Nat) (l1 : List Int) (r : List Int) (w : World) (hr0 : Kd.C (Kd.int .u64) w A0 l0.length l0) (hc0 : l0.length ≤ c0) (hr1 : Kd.C (Kd.int .u64) w A1 l1.length l1) (hc1 : l1.length ≤ c1) (h : sets_Set_Minus.f l0 l1 = some r) :
    Calls Try.prog 23 #[.slice A0 l0.length c0, .slice A1 l1.length c1] w fun e w' => ∃ v0_ : Value, e = .returned v0_ ∧ Kd.R (Kd.int .u64) 37 w' w.heap.size (fun _ => True) v0_ r ∧ Below w.heap.size w w' := by
  obtain rfl := Option.some.inj h
  clear h
  have H0 := Aside0.mk hr0
  have H1 := Aside0.mk hr1
  have HC0 := Aside0.mk hc0
  have HC1 := Aside0.mk hc1
  clear hr0 hr1 hc0 hc1
  go_enter Try.func23, Try.ntmps23
  go_wp2_with ((with_reducible refine gate_callee (f := 52) rfl ?_); refine goesL_ (some 7) rfl rfl Try.func52 (by kernel_rfl) rfl #[.slice A0 l0.length c0, .slice A1 l1.length c1, .func (.func 55) #[] #[]] rfl (by (try simp only [List.map_toArray, List.map_cons, List.map_nil]); first | done | rfl) ?_; (with_reducible refine (sets_join.calls (fun x y => Go.bits .andNot .u64 x y) 55 Try.f55 Try.func55 (by kernel_rfl) rfl sets_Minus_1.calls A0 c0 l0 A1 c1 l1 _ H0.out HC0.out H1.out HC1.out).mono ?_); rintro e w5 ⟨v5, rfl, ho, hb⟩; refine ⟨_, rfl, ?_⟩; have HO := Aside0.mk ho; have HB := Aside0.mk hb; clear ho hb)
  go_ret
  exact ⟨_, rfl, HO.out, HB.out⟩

def sets_one.f (a0 : Int) : Option (List Int) := if 0 ≤ a0 ∧ a0 < 4096 then some ((List.replicate (a0.toNat / 64 + 1) 0).set (a0.toNat / 64) (2 ^ (a0.toNat % 64))) else some []
set_option maxHeartbeats 2000000 in
set_option maxRecDepth 100000 in
theorem sets_one.calls (a0 : Int) (r : List Int) (w : World) (h : sets_one.f a0 = some r) :
    Calls Try.prog 56 #[.int .i64 a0] w fun e w' => ∃ v0_ : Value, e = .returned v0_ ∧ Kd.R (Kd.int .u64) 37 w' w.heap.size (fun _ => True) v0_ r ∧ Below w.heap.size w w' := by
  unfold sets_one.f at h
  by_cases hc : 0 ≤ a0 ∧ a0 < 4096
  · rw [if_pos hc] at h
    obtain rfl := Option.some.inj h
    clear h
    obtain ⟨h0, h1⟩ := hc
    obtain ⟨i, rfl⟩ : ∃ i : Nat, a0 = i := ⟨a0.toNat, by omega⟩
    have e1 : ((i : Int)).toNat = i := rfl
    rw [e1]
    clear e1
    have hmk0 := print_make (P := Try.prog) 36 37 .u64 8 Try.underlying36 infoU64 (by omega) (i / 64 + 1) (by omega)
    have hmk : ∀ W : World, (Instr.makeSlice 36 (.int .i64 ((i : Int) / 64 + 1)) (.int .i64 ((i : Int) / 64 + 1))).run Try.prog W = .ok (.slice (some ⟨W.heap.size, 0, none⟩) (i / 64 + 1) (i / 64 + 1)) (W.alloc (.cells (madeCells #[.int .u64 0] (i / 64 + 1)) 37)) := by
      intro W
      have := hmk0 W
      push_cast at this
      exact this
    clear hmk0
    have hown := Kd.R_of_own (h1 := fun _ => rfl) (ok := fun _ => True) (own_made' w w.heap.size 37 .u64 (i / 64 + 1) (Nat.le_refl _) (by omega)) (fun _ _ => trivial)
    obtain ⟨hx0, hx1⟩ := Kd.R_celln 0 hown ((i / 64 : Nat) : Int) (by omega) (by push_cast; omega)
    simp only [Int.toNat_natCast] at hx0 hx1
    have HO := Aside0.mk hown
    obtain ⟨W1, hW1⟩ : ∃ W1, w.alloc (.cells (madeCells #[.int .u64 0] (i / 64 + 1)) 37) = W1 := ⟨_, rfl⟩
    have HB1 := Aside0.mk (show Below w.heap.size w W1 by rw [← hW1]; exact below_alloc (Below.refl _ _) _)
    rw [hW1] at hx0 hx1
    have HO1 := Aside0.mk (by have := HO.out; rw [hW1] at this; exact this)
    clear hown HO
    have hmk2 : (Instr.makeSlice 36 (.int .i64 ((i : Int) / 64 + 1)) (.int .i64 ((i : Int) / 64 + 1))).run Try.prog w = .ok (.slice (some ⟨w.heap.size, 0, none⟩) (i / 64 + 1) (i / 64 + 1)) W1 := by rw [hmk w, hW1]
    clear hmk hW1
    have hv : IntKind.u64.wrap (2 ^ (i % 64)) = 2 ^ (i % 64) := by
      rw [IntKind.wrap_u64]
      have h2 : (2 : Nat) ^ (i % 64) ≤ 2 ^ 63 := Nat.pow_le_pow_right (by omega) (by omega)
      have h3 : ((2 : Int) ^ (i % 64)) = ((2 ^ (i % 64) : Nat) : Int) := by push_cast; rfl
      rw [h3]
      generalize (2 : Nat) ^ (i % 64) = q at h2
      omega
    have HV := Aside0.mk hv
    clear hv
    go_enter Try.func56, Try.ntmps56
    go_wp2
    go_ret
    refine ⟨_, rfl, ?_, ?_⟩
    · have h6 := Kd.R_putn HO1.out ((i / 64 : Nat) : Int) (2 ^ (i % 64))
      simp only [Int.toNat_natCast] at h6
      first
        | exact h6
        | (rw [HV.out]; exact h6)
        | (simp only [HV.out]; exact h6)
        | (rw [Int.one_mul, HV.out]; exact h6)
    · exact HB1.out.setCell (Nat.le_refl _) _
  · rw [if_neg hc] at h
    obtain rfl := Option.some.inj h
    clear h
    by_cases h0 : a0 < 0
    · clear hc
      go_enter Try.func56, Try.ntmps56
      go_wp2
      go_ret
      exact ⟨_, rfl, Kd.R_nil _ _ _ _ _, Below.refl _ _⟩
    · have h1 : 4096 ≤ a0 := by omega
      clear hc
      go_enter Try.func56, Try.ntmps56
      go_wp2
      go_ret
      exact ⟨_, rfl, Kd.R_nil _ _ _ _ _, Below.refl _ _⟩
end Go.Proofs.Ytknmlikjmnhgkaa.P
