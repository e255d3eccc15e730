/- A row of bytes that a conversion of a string has made: flat, of the call's own, and it bears the conversion's mark behind its bytes. No condition. -/
import Derived.Test.YtcbahonakhcdpaaPAllx0
namespace Go.Proofs.Ytcbahonakhcdpaa.P
open Go Go.RowKit Go.Proofs.YtcbahonakhcdpaaW.PrintWords Go.Proofs.YtcbahonakhcdpaaW.PrintLast Go.Proofs.YtcbahonakhcdpaaW.PrintMore

def Zr (e : Nat) (w : World) (base : Nat) (ok : Nat → Prop) (v : Value) (xs : List Int) : Prop :=
  (∀ k, v.ownBlock = some k → ok k) ∧ ∃ (g cap : Nat) (cur : Array Value) (fz : Nat × Nat), v = .slice (some ⟨g, 0, none⟩) xs.length cap ∧ base ≤ g ∧ w.heap[g]? = some (.cells cur e fz) ∧ xs.length ≤ fz.1 ∧ xs.length ≤ cap ∧ xs.length ≤ 9223372036854775807 ∧ ∀ (j : Nat) (x : Int), xs[j]? = some x → cur[j]? = some (Value.int .u8 x)
section
variable {e : Nat} {w w1 W : World} {base g n cap : Nat} {ok ok' ok1 : Nat → Prop} {v : Value} {xs : List Int}
theorem Zr_mono (h : Zr e w base ok v xs) (hok : ∀ k, ok k → ok' k) : Zr e w base ok' v xs := ⟨fun k hk => hok k (h.1 k hk), h.2⟩
theorem Zr_below (h : Zr e w base ok v xs) (hb : Below w.heap.size w w1) : Zr e w1 base ok v xs := by
  obtain ⟨h0, g, cap, cur, fz, rfl, hg, hc, r⟩ := h
  exact ⟨h0, g, cap, cur, fz, rfl, hg, by rw [hb.block g (blk_lt hc)]; exact hc, r⟩
theorem Zr_alloc (h : Zr e w base ok v xs) (o : Obj) : Zr e (w.alloc o) base ok v xs := Zr_below h (below_alloc (Below.refl _ _) o)
theorem Zr_drew (h : Zr e w base ok v xs) : Zr e w.drew base ok v xs := Zr_below h (below_drew (Below.refl _ _))
theorem Zr_drewN (h : Zr e w base ok v xs) (m : Nat) : Zr e (w.drewN m) base ok v xs := Zr_below h (pw_below_drewN (Below.refl _ _) m)
theorem Zr_slice (h : Zr e w base ok v xs) : ∃ A c, v = .slice A xs.length c := by
  obtain ⟨_, g, cap, _, _, hv, _⟩ := h
  exact ⟨_, _, hv⟩
theorem Zr_tight (_hE : (Kd.int .u8).E = []) (h : Zr e w base ok v xs) : Zr e w base (fun k => some k = v.ownBlock) v xs := ⟨fun _ hk => hk.symm, h.2⟩
theorem Zr_reok (_hE : (Kd.int .u8).E = []) (h : Zr e w base ok1 v xs) (hok : ∀ k, v.ownBlock = some k → ok k) : Zr e w base ok v xs := ⟨hok, h.2⟩
theorem Zr_reads' {A : Option Addr} {n c : Nat} (h : Zr e w base ok (.slice A n c) xs) : n = xs.length ∧ n ≤ c ∧ (Kd.int .u8).C w A xs.length xs := by
  obtain ⟨_, g, cap, cur, fz, hv, hg, hc, hf, hcap, hmax, hr⟩ := h
  injection hv with h1 h2 h3
  subst h1 h2 h3
  refine ⟨rfl, hcap, Kd.C_of_reads (enc := Value.int .u8) (d := (0 : Int)) (h1 := fun _ => rfl) ⟨rfl, hmax, fun _ => ⟨_, rfl, fun j hj => ?_⟩⟩⟩
  rw [add_plain]
  have h2 := hr j _ (List.getElem?_eq_getElem hj)
  simp [World.cell?, hc, h2, List.getElem?_eq_getElem hj]
theorem Zr_form (h : Zr e w base ok v xs) (_hp : 0 < xs.length) : ∃ g cap, v = .slice (some ⟨g, 0, none⟩) xs.length cap ∧ base ≤ g ∧ g < w.heap.size ∧ ∃ cells, ∃ fz, w.heap[g]? = some (.cells cells e fz) := by
  obtain ⟨_, g, cap, cur, fz, hv, hg, hc, _⟩ := h
  exact ⟨g, cap, hv, hg, blk_lt hc, cur, fz, hc⟩
theorem Zr_celln (_d : Int) (h : Zr e W base ok (.slice (some ⟨g, 0, none⟩) n cap) xs) (i : Int) (h0 : 0 ≤ i) (hi : i < n) : W.cell? ⟨g, i.toNat, none⟩ = some (.int .u8 (rd xs i)) ∧ W.frozen? ⟨g, i.toNat, none⟩ = false := by
  obtain ⟨_, g', cap', cur, fz, hv, hg, hc, hf, hcap, hmax, hr⟩ := h
  injection hv with h1 h2 h3
  injection h1 with h1
  injection h1 with h1
  subst h1 h2 h3
  have hj : i.toNat < xs.length := by omega
  have h2 := hr i.toNat _ (List.getElem?_eq_getElem hj)
  refine ⟨?_, ?_⟩
  · simp [World.cell?, hc, h2, rd, List.getD_eq_getElem?_getD, List.getElem?_eq_getElem hj]
  · obtain ⟨lo, hi'⟩ := fz
    simp only [World.frozen?, hc]
    simp only at hf
    have : ¬ lo ≤ i.toNat := by omega
    simp [this]
theorem Zr_putg (h : Zr e W base ok (.slice (some ⟨g, 0, none⟩) n cap) xs) (i : Int) (x : Int) : Zr e (W.setCell ⟨g, i.toNat, none⟩ (.int .u8 x)) base ok (.slice (some ⟨g, 0, none⟩) n cap) (xs.set i.toNat x) ∧ W.grownBy (W.setCell ⟨g, i.toNat, none⟩ (.int .u8 x)) (some g) := by
  obtain ⟨h0, g', cap', cur, fz, hv, hg, hc, hf, hcap, hmax, hr⟩ := h
  injection hv with h1 h2 h3
  injection h1 with h1
  injection h1 with h1
  subst h1 h2 h3
  refine ⟨⟨h0, g, cap, cur.setIfInBounds i.toNat (.int .u8 x), fz, by rw [List.length_set], hg, by simp [World.setCell, Array.getElem?_modify, hc], by rw [List.length_set]; exact hf, by rw [List.length_set]; exact hcap, by rw [List.length_set]; exact hmax, ?_⟩, ?_⟩
  · intro j y hy
    rw [List.getElem?_set] at hy
    rw [Array.getElem?_setIfInBounds]
    by_cases hj : i.toNat = j
    · rw [if_pos hj] at hy
      rw [if_pos hj]
      by_cases hl : i.toNat < xs.length
      · rw [if_pos hl] at hy
        have h2 := hr i.toNat _ (List.getElem?_eq_getElem hl)
        have hlt : i.toNat < cur.size := by
          by_cases hh : i.toNat < cur.size
          · exact hh
          · rw [Array.getElem?_eq_none (by omega)] at h2
            cases h2
        rw [if_pos hlt, ← Option.some.inj hy]
      · rw [if_neg hl] at hy
        cases hy
    · rw [if_neg hj] at hy
      rw [if_neg hj]
      exact hr j y hy
  · refine ⟨rfl, rfl, rfl, by simp [World.setCell], fun k hk hne => Below.heap_setCell _ _ _ _ (fun e => hne (by rw [e]))⟩
end
section
variable {P : Program} {ops : Array Oper} {rest : List Oper} {o : Oper} {a : Act} {Q : Exit → Act → World → Prop}
theorem gate_conv {src dst : TypeId} {x : Operand} (_ho : o.op = .convert src dst x) {W : World} (h : wpList P ops Q (o :: rest) a W) : wpList P ops Q (o :: rest) a W := h
theorem conv_event {w0 W : World} (base : Nat) (hgd : o.guard = none) (x : Operand) (src dst e : TypeId) (ho : o.op = .convert src dst x) (hs : P.underlying src = some .string) (hd : P.underlying dst = some (.slice e)) (he : P.underlying e = some (.int .u8))
    (y : ByteArray) (hx : a.eval x = .string y) (HB : Below base w0 W) (hbase : base ≤ W.heap.size) (hl : y.size ≤ 140737488355328)
    (h : ∀ v1 w1, Zr e w1 base (fun _ => True) v1 (bytesOf y) → Below base w0 w1 → wpList P ops Q rest (a.put o.dst v1) w1) : wpList P ops Q (o :: rest) a W := by
  have hrun := print_bytes (P := P) src dst e hs hd he y W
  refine Kd.event_run (v := .slice (some ⟨W.heap.size, 0, none⟩) y.size (grownCap W y.size 0 e)) (w1 := Lib.bytesWorld W e y) hgd ?_ (h _ _ ?_ (bytes_below HB hbase e y))
  · unfold execOp
    rw [ho]
    simp [hx, hrun, Result.andThen]
  · refine ⟨fun _ _ => trivial, W.heap.size, grownCap W y.size 0 e, Lib.bytesCells W e y, _, by rw [bytesOf_length], hbase, Lib.bytesWorld_at_new W e y, ?_, ?_, ?_, ?_⟩
    · have : (Lib.bytesCells W e y).size = y.data.size + (grownCap W y.size 0 e - y.size) := by simp [Lib.bytesCells]
      show (bytesOf y).length ≤ (Lib.bytesCells W e y).size
      rw [bytesOf_length, this]
      show y.data.size ≤ _
      omega
    · rw [bytesOf_length]; exact grownCap_ge _ _ _ _
    · rw [bytesOf_length]; omega
    · intro j z hz
      unfold bytesOf at hz
      rw [List.getElem?_map] at hz
      obtain ⟨b, hb, rfl⟩ := Option.map_eq_some_iff.1 hz
      obtain ⟨hj, rfl⟩ := List.getElem?_eq_some_iff.1 hb
      have hc := Lib.bytesWorld_cell W e y j (by rw [data_length] at hj; exact hj)
      simp only [World.cell?, Lib.bytesWorld_at_new, List.getD_eq_getElem?_getD, List.getElem?_eq_getElem hj] at hc
      exact hc
end
end Go.Proofs.Ytcbahonakhcdpaa.P
