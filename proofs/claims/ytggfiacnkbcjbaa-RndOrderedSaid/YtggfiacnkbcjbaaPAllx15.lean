/- Functions of this seat in plain Lean and their contracts, written by a turned copy of the kit's print (turns: wip/pr/make.py of this session). No condition. Short rows. -/
import Derived.Shelf.Sort.Plain
import Derived.Shelf.Slices.In.SortNone
import Derived.Sort.OwnSorted
import Derived.Test.YtggfiacnkbcjbaaPAllx0
namespace Go.Proofs.Ytggfiacnkbcjbaa.P
open Go.RowKit Go.Proofs.YtggfiacnkbcjbaaW.PrintWords Go.Proofs.YtggfiacnkbcjbaaW.PrintLast Go.Proofs.YtggfiacnkbcjbaaW.PrintMore
attribute [local go_sem] max2_int min2_int max_two min_two max_three min_three max_four min_four   -- for this text's walks alone
attribute [local go_sem] fld25_0 fld25_1
set_option linter.unusedVariables false
set_option linter.unusedSimpArgs false

-- NOT PRINTED: function 68 (slices_partitionOrdered_int)

-- NOT PRINTED: function 58 (slices_pdqsortOrdered_int)

/-! ### slices_Sort_int_int: function 52 -/
def lays189_ren : Go.Shelf.Ren := ⟨fun | 189 => 52 | 125 => 59 | 257 => 58 | 128 => 69 | 129 => 70 | 294 => 60 | 295 => 61 | 296 => 62 | 297 => 63 | 298 => 64 | 299 => 65 | 216 => 66 | 300 => 67 | 301 => 68 | 328 => 71 | 329 => 72 | 330 => 73 | 331 => 74 | 332 => 75 | 215 => 76 | 343 => 77 | n => n, fun | 28 => 37 | 3 => 3 | 46 => 86 | 0 => 0 | 51 => 104 | 53 => 23 | 4 => 4 | 183 => 98 | 182 => 97 | 131 => 101 | 5 => 5 | 9 => 9 | 218 => 105 | 222 => 109 | 228 => 112 | 229 => 113 | n => n, fun | n => n⟩
theorem lays189 : Go.Proofs.Lays.n189 Try.prog lays189_ren := {
 mixed := by kernel_rfl
 f125 := Try.func59.trans (congrArg some (by kernel_rfl))
 f128 := Try.func69.trans (congrArg some (by kernel_rfl))
 f129 := Try.func70.trans (congrArg some (by kernel_rfl))
 f189 := Try.func52.trans (congrArg some (by kernel_rfl))
 f215 := Try.func76.trans (congrArg some (by kernel_rfl))
 f216 := Try.func66.trans (congrArg some (by kernel_rfl))
 f257 := Try.func58.trans (congrArg some (by kernel_rfl))
 f294 := Try.func60.trans (congrArg some (by kernel_rfl))
 f295 := Try.func61.trans (congrArg some (by kernel_rfl))
 f296 := Try.func62.trans (congrArg some (by kernel_rfl))
 f297 := Try.func63.trans (congrArg some (by kernel_rfl))
 f298 := Try.func64.trans (congrArg some (by kernel_rfl))
 f299 := Try.func65.trans (congrArg some (by kernel_rfl))
 f300 := Try.func67.trans (congrArg some (by kernel_rfl))
 f301 := Try.func68.trans (congrArg some (by kernel_rfl))
 f328 := Try.func71.trans (congrArg some (by kernel_rfl))
 f329 := Try.func72.trans (congrArg some (by kernel_rfl))
 f330 := Try.func73.trans (congrArg some (by kernel_rfl))
 f331 := Try.func74.trans (congrArg some (by kernel_rfl))
 f332 := Try.func75.trans (congrArg some (by kernel_rfl))
 f343 := Try.func77.trans (congrArg some (by kernel_rfl))
 t0 := Try.underlying0
 a0 := Try.isAgg0
 z0 := Try.sizeOf0
 v0 := Try.zeroValue0
 t3 := Try.underlying3
 a3 := Try.isAgg3
 z3 := Try.sizeOf3
 v3 := Try.zeroValue3
 t4 := Try.underlying4
 a4 := Try.isAgg4
 z4 := Try.sizeOf4
 v4 := Try.zeroValue4
 t5 := Try.underlying5
 a5 := Try.isAgg5
 z5 := Try.sizeOf5
 v5 := Try.zeroValue5
 t9 := Try.underlying9
 a9 := Try.isAgg9
 z9 := Try.sizeOf9
 v9 := Try.zeroValue9
 t28 := Try.underlying37
 a28 := Try.isAgg37
 z28 := Try.sizeOf37
 v28 := Try.zeroValue37
 t46 := Try.underlying86
 a46 := Try.isAgg86
 z46 := Try.sizeOf86
 v46 := Try.zeroValue86
 t51 := Try.underlying104
 a51 := Try.isAgg104
 z51 := Try.sizeOf104
 v51 := Try.zeroValue104
 t53 := Try.underlying23
 a53 := Try.isAgg23
 z53 := Try.sizeOf23
 v53 := Try.zeroValue23
 t131 := Try.underlying101
 a131 := Try.isAgg101
 z131 := Try.sizeOf101
 v131 := Try.zeroValue101
 t182 := Try.underlying97
 a182 := Try.isAgg97
 z182 := Try.sizeOf97
 v182 := Try.zeroValue97
 t183 := Try.underlying98
 a183 := Try.isAgg98
 z183 := Try.sizeOf98
 v183 := Try.zeroValue98
 t218 := Try.underlying105
 a218 := Try.isAgg105
 z218 := Try.sizeOf105
 v218 := Try.zeroValue105
 t222 := Try.underlying109
 a222 := Try.isAgg109
 z222 := Try.sizeOf109
 v222 := Try.zeroValue109
 t228 := Try.underlying112
 a228 := Try.isAgg112
 z228 := Try.sizeOf112
 v228 := Try.zeroValue112
 t229 := Try.underlying113
 a229 := Try.isAgg113
 z229 := Try.sizeOf113
 v229 := Try.zeroValue113 }
def slices_Sort_int_int.f (l0 : List Int) : Option (List Int) := if l0.length < 4611686018427387904 then some (l0.mergeSort fun x y => decide (x ≤ y)) else none
theorem sort_inner {w : World} {base : Nat} {ok : Nat → Prop} {l : List Int} {inner : List Value} (h : Reps ((Kd.int .i64).M w base ok) (Kd.int .i64).sz l inner) : inner = l.map (Value.int .i64) := by
 obtain ⟨h1, h2⟩ := h
 have h1' : inner.length = l.length := h1.trans (Nat.mul_one _)
 apply List.ext_getElem (by simpa using h1')
 intro j hj hj'
 have hl : j < l.length := by simpa using hj'
 have h3 : ((inner.drop (j * 1)).take 1) = [Value.int .i64 l[j]] := h2 j l[j] (List.getElem?_eq_getElem hl)
 rw [Nat.mul_one, List.drop_eq_getElem_cons hj] at h3
 have h4 : inner[j] = Value.int .i64 l[j] := (List.cons.inj (show inner[j] :: List.take 0 (inner.drop (j + 1)) = Value.int .i64 l[j] :: [] from h3)).1
 rw [h4, List.getElem_map]
theorem sort_row {w : World} {base e : Nat} {ok : Nat → Prop} {v : Value} {l : List Int} (hk : ∀ k, v.ownBlock = some k → ok k) (h : w.ownsRow base e 1 v l.length (l.map (Value.int .i64))) : Kd.R (Kd.int .i64) e w base ok v l :=
 ⟨hk, l.map (Value.int .i64), h, by
  refine ⟨by rw [List.length_map]; exact (Nat.mul_one _).symm, fun j p hj => ?_⟩
  show ((l.map (Value.int .i64)).drop (j * 1)).take 1 = [Value.int .i64 p]
  rw [Nat.mul_one]
  obtain ⟨hj', rfl⟩ := List.getElem?_eq_some_iff.1 hj
  rw [List.drop_eq_getElem_cons (by simpa using hj')]
  simp⟩
theorem sort_block {w : World} {g n : Nat} {os : Array Obj} {cur : Array Value} {e : TypeId} (d : Array Int) (hb : w.heap[g]? = some (.cells cur e (0, 0))) :
  (Go.Sort.grow (Go.Sort.putRow (Value.int .i64) (Go.Sort.ahead w n) g 0 d) os).heap[g]? = some (.cells (Go.Sort.putCells (Value.int .i64) 0 d cur) e (0, 0)) := by
 have hg : g < w.heap.size := (Array.getElem?_eq_some_iff.1 hb).1
 rw [Go.Sort.heap_grow_old _ _ (by simpa using hg)]
 simp [Go.Sort.putRow, Go.Sort.mapBlock, Go.Sort.ahead, Array.getElem?_modify, hb, Go.Sort.onCells]
theorem sort_grown {w : World} {g n : Nat} {os : Array Obj} (d : Array Int) : w.grownBy (Go.Sort.grow (Go.Sort.putRow (Value.int .i64) (Go.Sort.ahead w n) g 0 d) os) (some g) := by
 refine ⟨rfl, rfl, rfl, by simp, fun k hk hne => ?_⟩
 rw [Go.Sort.heap_grow_old _ _ (by simpa using hk)]
 have : g ≠ k := fun e => hne (by rw [e])
 simp [Go.Sort.putRow, Go.Sort.mapBlock, Go.Sort.ahead, Array.getElem?_modify, this]
theorem sort_take (cur : Array Value) (ts : List Int) (h : ts.length ≤ cur.size) : (Go.Sort.putCells (Value.int .i64) 0 ts.toArray cur).toList.take ts.length = ts.map (Value.int .i64) := by
 apply List.ext_getElem?
 intro j
 by_cases hj : j < ts.length
 ·
  rw [List.getElem?_take_of_lt hj, Array.getElem?_toList]
  simp [Go.Sort.putCells, hj, show j < cur.size by omega]
 ·
  rw [List.getElem?_take_eq_none (by omega), List.getElem?_eq_none (by simp; omega)]
theorem slices_Sort_int_int.calls (P0_ : Nat → Prop) (u9000_ : Value) (l0 : List Int) (r : List Int) (w0 w : World) (hB : Below w0.heap.size w0 w) (ho0 : Kd.R (Kd.int .i64) 3 w w0.heap.size P0_ u9000_ l0) (h : slices_Sort_int_int.f l0 = some r) :
  Calls Try.prog 52 #[u9000_] w fun e w' => e = .returned (.tuple #[]) ∧ Kd.R (Kd.int .i64) 3 w' w0.heap.size (fun k_ => (P0_ k_ ∨ w.heap.size ≤ k_)) u9000_ r ∧ Below w0.heap.size w0 w' ∧ Kept w w' (fun k_ => P0_ k_) := by
 unfold slices_Sort_int_int.f at h
 split at h
 case isFalse => cases h
 rename_i hl
 obtain rfl := Option.some.inj h
 obtain ⟨hok, inner, ho, hr⟩ := ho0
 obtain rfl := sort_inner hr
 obtain ⟨hx, ho'⟩ := ho
 rcases ho' with ⟨rfl, hn⟩ | ⟨g, cap, cur, rfl, hg, hh, h1, h2, h3, h4⟩
 ·
  have hz : l0 = [] := List.eq_nil_of_length_eq_zero hn
  subst hz
  refine (Any.slices_Sort_int_none lays189 none 0 w).mono ?_
  rintro e w' ⟨rfl, rfl⟩
  refine ⟨rfl, ?_, hB, Kept.refl _ _⟩
  have : ([] : List Int).mergeSort (fun x y => decide (x ≤ y)) = [] := by simp
  rw [this]
  exact Kd.R_nil _ _ _ _ _
 ·
  have hH : Go.Sort.Holds (Value.int .i64) w g 0 l0.toArray := by
   intro j hj
   have hj' : j < l0.length := by simpa using hj
   refine ⟨?_, by simp [World.frozen?, hh]⟩
   have h5 : (cur.toList.take l0.length)[j]? = (l0.map (Value.int .i64))[j]? := by rw [← h4]; exact congrArg (fun m => (cur.toList.take m)[j]?) (Nat.mul_one _).symm
   rw [List.getElem?_take_of_lt hj'] at h5
   simp only [World.cell?, hh, Nat.zero_add]
   simp only [Option.isSome_none, Bool.false_eq_true, if_false]
   rw [← Array.getElem?_toList, h5]
   simp [hj']
  have hblk : g < w.heap.size := (Array.getElem?_eq_some_iff.1 hh).1
  refine (Any.slices_Sort_int lays189 g 0 cap l0 w hH hblk hl).mono ?_
  rintro e w' ⟨rfl, n, os, rfl⟩
  have hs : (l0.mergeSort fun x y => decide (x ≤ y)).length = l0.length := List.length_mergeSort _
  generalize hts : (l0.mergeSort fun x y => decide (x ≤ y)) = ts at *
  have hgr := sort_grown (w := w) (g := g) (n := n) (os := os) ts.toArray
  refine ⟨rfl, ?_, ?_, ?_⟩
  ·
   refine sort_row (fun k hk => .inl (hok k hk)) ⟨by simp, .inr ⟨g, cap, _, by rw [hs], hg, sort_block _ hh, by omega, h2, by rw [show (Go.Sort.putCells (Value.int .i64) 0 ts.toArray cur).size = cur.size by simp [Go.Sort.putCells]]; exact h3, ?_⟩⟩
   have h6 : cur.size = cap := h3.trans (Nat.mul_one _)
   rw [Nat.mul_one]
   exact sort_take cur ts (by omega)
  ·
   exact hB.grown hgr (by omega) (by intro k hk; injection hk with hk; omega)
  ·
   exact ⟨hgr.size, fun i hi hn => hgr.block i hi (fun he => hn (by
    injection he with he
    exact he ▸ hok g (by simp [Value.ownBlock])))⟩

end Go.Proofs.Ytggfiacnkbcjbaa.P
