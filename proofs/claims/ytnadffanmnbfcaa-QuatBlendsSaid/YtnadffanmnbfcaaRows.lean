/-
  No cell of these rows narrows 'for every input' (looked for: loops, veiled, ifaces, maps, wideKeys, modest, calm, conditions, laid).
  DERIVED. THE GIVEN ROWS OF THIS SEAT. 9 by the template 'for every input the law returns true; each argument reads behind the call as it read before'; 0 by the template 'total and deterministic' (their statements: YtnadffanmnbfcaaTotals.lean).
  GIVEN WITH THE SEED: the statements are not yours to turn. If you find one false, say at which input.
  Laid BY PROGRAM, IN A SANDBOX (cutbox-rows.mjs): the forced cells as the released guide's own fill.sh prints them over the translation d468ec7c8ae28df1… (all of the seat's roots in one cut). By AI agents, Wed Nov 11 2026. No macro, syntax, notation, axiom, sorry.
-/
import Derived.Test.YtnadffanmnbfcaaChecked
import GoSem.Claim
import GoSem.ClaimJoined
import GoSem.ClaimMapViews
import Derived.JoinedTies
import Derived.KernelRfl
namespace Go.Proofs.Ytnadffanmnbfcaa
/- THE CELL 'sum', in the pinned program and in every row, IS THE sha256 OF THE DUMP (.gsa) THAT YtnadffanmnbfcaaProg.lean LOADS. Nothing in Lean hashes anything: it is a label: what it is worth is what the hold of that sum in a sandbox is worth. -/
noncomputable def Try.pinned : Pinned := { name := "ytnadffanmnbfcaa", sum := "d468ec7c8ae28df1b16d97354dd7290cb1e095b48c4adfd104e03cb3c271c411", checked := Try.checked }
namespace Rows
def none {H : Type} : Left H := { results := [], args := [] }

/-- 'tourkeep1.VecTriangle': WHATEVER THE INPUT: true; the input reads as it did. -/
def vecTriangleSpec : ChangeSpec := { name := "vecTriangle", fn := fun _ => fun
  | [d1, d2, d3, d4] => { results := [.lit (.bool true)], args := [d1, d2, d3, d4] }
  | _ => none }
def vecTriangleRow : OpenClaim := { program := "ytnadffanmnbfcaa", sum := "d468ec7c8ae28df1b16d97354dd7290cb1e095b48c4adfd104e03cb3c271c411", func := "tourney/tourkeep1.VecTriangle", spec := "vecTriangle", inPlace := ["math/bits.Add64"], apart := false }
def VecTriangleSaid : Prop := vecTriangleRow.holds Try.pinned (OpenSpec.ofChange vecTriangleSpec)

/-- ITS FALSE NEIGHBOUR: 'it returns false'. Refute it at one input. -/
def vecTriangleWrong : ChangeSpec := { name := "vecTriangle", fn := fun _ => fun
  | [d1, d2, d3, d4] => { results := [.lit (.bool false)], args := [d1, d2, d3, d4] }
  | _ => none }
def VecTriangleWrongFalsely : Prop := vecTriangleRow.holds Try.pinned (OpenSpec.ofChange vecTriangleWrong)

/-- 'tourkeep1.VecUnits': WHATEVER THE INPUT: true; the input reads as it did. -/
def vecUnitsSpec : ChangeSpec := { name := "vecUnits", fn := fun _ => fun
  | [d1, d2] => { results := [.lit (.bool true)], args := [d1, d2] }
  | _ => none }
def vecUnitsRow : OpenClaim := { program := "ytnadffanmnbfcaa", sum := "d468ec7c8ae28df1b16d97354dd7290cb1e095b48c4adfd104e03cb3c271c411", func := "tourney/tourkeep1.VecUnits", spec := "vecUnits", inPlace := ["math/bits.Add64"], apart := false }
def VecUnitsSaid : Prop := vecUnitsRow.holds Try.pinned (OpenSpec.ofChange vecUnitsSpec)

/-- ITS FALSE NEIGHBOUR: 'it returns false'. Refute it at one input. -/
def vecUnitsWrong : ChangeSpec := { name := "vecUnits", fn := fun _ => fun
  | [d1, d2] => { results := [.lit (.bool false)], args := [d1, d2] }
  | _ => none }
def VecUnitsWrongFalsely : Prop := vecUnitsRow.holds Try.pinned (OpenSpec.ofChange vecUnitsWrong)

/-- 'tourkeep1.VecProducts': WHATEVER THE INPUT: true; the input reads as it did. -/
def vecProductsSpec : ChangeSpec := { name := "vecProducts", fn := fun _ => fun
  | [d1, d2, d3, d4] => { results := [.lit (.bool true)], args := [d1, d2, d3, d4] }
  | _ => none }
def vecProductsRow : OpenClaim := { program := "ytnadffanmnbfcaa", sum := "d468ec7c8ae28df1b16d97354dd7290cb1e095b48c4adfd104e03cb3c271c411", func := "tourney/tourkeep1.VecProducts", spec := "vecProducts", inPlace := ["math/bits.Add64"], named := ["math/bits.divideError", "math/bits.overflowError"], apart := false }
def VecProductsSaid : Prop := vecProductsRow.holds Try.pinned (OpenSpec.ofChange vecProductsSpec)

/-- ITS FALSE NEIGHBOUR: 'it returns false'. Refute it at one input. -/
def vecProductsWrong : ChangeSpec := { name := "vecProducts", fn := fun _ => fun
  | [d1, d2, d3, d4] => { results := [.lit (.bool false)], args := [d1, d2, d3, d4] }
  | _ => none }
def VecProductsWrongFalsely : Prop := vecProductsRow.holds Try.pinned (OpenSpec.ofChange vecProductsWrong)

/-- 'tourkeep1.TrigSums': WHATEVER THE INPUT: true; the input reads as it did. -/
def trigSumsSpec : ChangeSpec := { name := "trigSums", fn := fun _ => fun
  | [d1, d2] => { results := [.lit (.bool true)], args := [d1, d2] }
  | _ => none }
def trigSumsRow : OpenClaim := { program := "ytnadffanmnbfcaa", sum := "d468ec7c8ae28df1b16d97354dd7290cb1e095b48c4adfd104e03cb3c271c411", func := "tourney/tourkeep1.TrigSums", spec := "trigSums", named := ["math/bits.divideError", "math/bits.overflowError"], apart := false }
def TrigSumsSaid : Prop := trigSumsRow.holds Try.pinned (OpenSpec.ofChange trigSumsSpec)

/-- ITS FALSE NEIGHBOUR: 'it returns false'. Refute it at one input. -/
def trigSumsWrong : ChangeSpec := { name := "trigSums", fn := fun _ => fun
  | [d1, d2] => { results := [.lit (.bool false)], args := [d1, d2] }
  | _ => none }
def TrigSumsWrongFalsely : Prop := trigSumsRow.holds Try.pinned (OpenSpec.ofChange trigSumsWrong)

/-- 'tourkeep1.VecTurns': WHATEVER THE INPUT: true; the input reads as it did. -/
def vecTurnsSpec : ChangeSpec := { name := "vecTurns", fn := fun _ => fun
  | [d1, d2, d3] => { results := [.lit (.bool true)], args := [d1, d2, d3] }
  | _ => none }
def vecTurnsRow : OpenClaim := { program := "ytnadffanmnbfcaa", sum := "d468ec7c8ae28df1b16d97354dd7290cb1e095b48c4adfd104e03cb3c271c411", func := "tourney/tourkeep1.VecTurns", spec := "vecTurns", inPlace := ["math/bits.Add64"], named := ["math/bits.divideError", "math/bits.overflowError"], apart := false }
def VecTurnsSaid : Prop := vecTurnsRow.holds Try.pinned (OpenSpec.ofChange vecTurnsSpec)

/-- ITS FALSE NEIGHBOUR: 'it returns false'. Refute it at one input. -/
def vecTurnsWrong : ChangeSpec := { name := "vecTurns", fn := fun _ => fun
  | [d1, d2, d3] => { results := [.lit (.bool false)], args := [d1, d2, d3] }
  | _ => none }
def VecTurnsWrongFalsely : Prop := vecTurnsRow.holds Try.pinned (OpenSpec.ofChange vecTurnsWrong)

/-- 'tourkeep1.QuatUnits': WHATEVER THE INPUT: true; the input reads as it did. -/
def quatUnitsSpec : ChangeSpec := { name := "quatUnits", fn := fun _ => fun
  | [d1, d2] => { results := [.lit (.bool true)], args := [d1, d2] }
  | _ => none }
def quatUnitsRow : OpenClaim := { program := "ytnadffanmnbfcaa", sum := "d468ec7c8ae28df1b16d97354dd7290cb1e095b48c4adfd104e03cb3c271c411", func := "tourney/tourkeep1.QuatUnits", spec := "quatUnits", inPlace := ["math/bits.Add64"], unfollowed := true, recurses := true, named := ["math/bits.divideError", "math/bits.overflowError"], apart := false }
def QuatUnitsSaid : Prop := quatUnitsRow.holds Try.pinned (OpenSpec.ofChange quatUnitsSpec)

/-- ITS FALSE NEIGHBOUR: 'it returns false'. Refute it at one input. -/
def quatUnitsWrong : ChangeSpec := { name := "quatUnits", fn := fun _ => fun
  | [d1, d2] => { results := [.lit (.bool false)], args := [d1, d2] }
  | _ => none }
def QuatUnitsWrongFalsely : Prop := quatUnitsRow.holds Try.pinned (OpenSpec.ofChange quatUnitsWrong)

/-- 'tourkeep1.QuatKeeps': WHATEVER THE INPUT: true; the input reads as it did. -/
def quatKeepsSpec : ChangeSpec := { name := "quatKeeps", fn := fun _ => fun
  | [d1, d2, d3, d4] => { results := [.lit (.bool true)], args := [d1, d2, d3, d4] }
  | _ => none }
def quatKeepsRow : OpenClaim := { program := "ytnadffanmnbfcaa", sum := "d468ec7c8ae28df1b16d97354dd7290cb1e095b48c4adfd104e03cb3c271c411", func := "tourney/tourkeep1.QuatKeeps", spec := "quatKeeps", inPlace := ["math/bits.Add64"], unfollowed := true, recurses := true, named := ["math/bits.divideError", "math/bits.overflowError"], apart := false }
def QuatKeepsSaid : Prop := quatKeepsRow.holds Try.pinned (OpenSpec.ofChange quatKeepsSpec)

/-- ITS FALSE NEIGHBOUR: 'it returns false'. Refute it at one input. -/
def quatKeepsWrong : ChangeSpec := { name := "quatKeeps", fn := fun _ => fun
  | [d1, d2, d3, d4] => { results := [.lit (.bool false)], args := [d1, d2, d3, d4] }
  | _ => none }
def QuatKeepsWrongFalsely : Prop := quatKeepsRow.holds Try.pinned (OpenSpec.ofChange quatKeepsWrong)

/-- 'tourkeep1.QuatBlends': WHATEVER THE INPUT: true; the input reads as it did. -/
def quatBlendsSpec : ChangeSpec := { name := "quatBlends", fn := fun _ => fun
  | [d1, d2, d3] => { results := [.lit (.bool true)], args := [d1, d2, d3] }
  | _ => none }
def quatBlendsRow : OpenClaim := { program := "ytnadffanmnbfcaa", sum := "d468ec7c8ae28df1b16d97354dd7290cb1e095b48c4adfd104e03cb3c271c411", func := "tourney/tourkeep1.QuatBlends", spec := "quatBlends", inPlace := ["math/bits.Add64"], unfollowed := true, recurses := true, named := ["math/bits.divideError", "math/bits.overflowError"], apart := false }
def QuatBlendsSaid : Prop := quatBlendsRow.holds Try.pinned (OpenSpec.ofChange quatBlendsSpec)

/-- ITS FALSE NEIGHBOUR: 'it returns false'. Refute it at one input. -/
def quatBlendsWrong : ChangeSpec := { name := "quatBlends", fn := fun _ => fun
  | [d1, d2, d3] => { results := [.lit (.bool false)], args := [d1, d2, d3] }
  | _ => none }
def QuatBlendsWrongFalsely : Prop := quatBlendsRow.holds Try.pinned (OpenSpec.ofChange quatBlendsWrong)

/-- 'tourkeep1.QuatPlane': WHATEVER THE INPUT: true; the input reads as it did. -/
def quatPlaneSpec : ChangeSpec := { name := "quatPlane", fn := fun _ => fun
  | [d1, d2, d3] => { results := [.lit (.bool true)], args := [d1, d2, d3] }
  | _ => none }
def quatPlaneRow : OpenClaim := { program := "ytnadffanmnbfcaa", sum := "d468ec7c8ae28df1b16d97354dd7290cb1e095b48c4adfd104e03cb3c271c411", func := "tourney/tourkeep1.QuatPlane", spec := "quatPlane", inPlace := ["math/bits.Add64"], unfollowed := true, recurses := true, named := ["math/bits.divideError", "math/bits.overflowError"], apart := false }
def QuatPlaneSaid : Prop := quatPlaneRow.holds Try.pinned (OpenSpec.ofChange quatPlaneSpec)

/-- ITS FALSE NEIGHBOUR: 'it returns false'. Refute it at one input. -/
def quatPlaneWrong : ChangeSpec := { name := "quatPlane", fn := fun _ => fun
  | [d1, d2, d3] => { results := [.lit (.bool false)], args := [d1, d2, d3] }
  | _ => none }
def QuatPlaneWrongFalsely : Prop := quatPlaneRow.holds Try.pinned (OpenSpec.ofChange quatPlaneWrong)

/- THE SECOND FORM. 'bulk': how many values and letters a reading holds, each counted each time it is reached (what is shared counts as often as it is met; a slice's spare places count too). A statement '..UptoSaid' is the law's where the arguments, and the package variables that the reading takes, are together of bulk at most 1048576: NARROWER than '..Said'. Prove '..Said' where nothing that the law and all that it calls make is longer than what came in: it says more and counts as full. Else prove '..UptoSaid'. A law counts once. -/
mutual
def uptoBulk {H : Type} : DataW H → Nat
  | .lit (.string bytes) => bytes.length + 1
  | .lit _ => 1
  | .nil => 1
  | .ptr d => uptoBulk d + 1
  | .slice elems spare => uptoBulkAll elems + uptoBulkAll spare + 1
  | .agg parts => uptoBulkAll parts + 1
  | .iface _ d => uptoBulk d + 1
  | .map entries => uptoBulkEntries entries + 1
  | .held _ => 1
def uptoBulkAll {H : Type} : List (DataW H) → Nat
  | [] => 0
  | d :: r => uptoBulk d + uptoBulkAll r
def uptoBulkEntries {H : Type} : List (Lit × DataW H) → Nat
  | [] => 0
  | x :: r => uptoBulkEntry x + uptoBulkEntries r
def uptoBulkEntry {H : Type} : Lit × DataW H → Nat
  | (.string bytes, d) => bytes.length + uptoBulk d + 1
  | (_, d) => uptoBulk d + 1
 end
def uptoSmall : (H : Type) → List (DataW H) → Bool := fun _ ds => decide (uptoBulkAll ds ≤ 1048576)
def OpenSpec.upto (s : _root_.Go.ChangeSpec) : _root_.Go.OpenSpec := { _root_.Go.OpenSpec.ofChange s with cond := some uptoSmall }

/-- 'tourkeep1.VecTriangle', WHERE WHAT IT READS IS OF BULK AT MOST 1048576: true; the input reads as it did. -/
def vecTriangleUptoRow : OpenClaim := { program := "ytnadffanmnbfcaa", sum := "d468ec7c8ae28df1b16d97354dd7290cb1e095b48c4adfd104e03cb3c271c411", func := "tourney/tourkeep1.VecTriangle", spec := "vecTriangle", inPlace := ["math/bits.Add64"], apart := false, narrowed := true }
def VecTriangleUptoSaid : Prop := vecTriangleUptoRow.holds Try.pinned (OpenSpec.upto vecTriangleSpec)

/-- 'tourkeep1.VecUnits', WHERE WHAT IT READS IS OF BULK AT MOST 1048576: true; the input reads as it did. -/
def vecUnitsUptoRow : OpenClaim := { program := "ytnadffanmnbfcaa", sum := "d468ec7c8ae28df1b16d97354dd7290cb1e095b48c4adfd104e03cb3c271c411", func := "tourney/tourkeep1.VecUnits", spec := "vecUnits", inPlace := ["math/bits.Add64"], apart := false, narrowed := true }
def VecUnitsUptoSaid : Prop := vecUnitsUptoRow.holds Try.pinned (OpenSpec.upto vecUnitsSpec)

/-- 'tourkeep1.VecProducts', WHERE WHAT IT READS IS OF BULK AT MOST 1048576: true; the input reads as it did. -/
def vecProductsUptoRow : OpenClaim := { program := "ytnadffanmnbfcaa", sum := "d468ec7c8ae28df1b16d97354dd7290cb1e095b48c4adfd104e03cb3c271c411", func := "tourney/tourkeep1.VecProducts", spec := "vecProducts", inPlace := ["math/bits.Add64"], named := ["math/bits.divideError", "math/bits.overflowError"], apart := false, narrowed := true }
def VecProductsUptoSaid : Prop := vecProductsUptoRow.holds Try.pinned (OpenSpec.upto vecProductsSpec)

/-- 'tourkeep1.TrigSums', WHERE WHAT IT READS IS OF BULK AT MOST 1048576: true; the input reads as it did. -/
def trigSumsUptoRow : OpenClaim := { program := "ytnadffanmnbfcaa", sum := "d468ec7c8ae28df1b16d97354dd7290cb1e095b48c4adfd104e03cb3c271c411", func := "tourney/tourkeep1.TrigSums", spec := "trigSums", named := ["math/bits.divideError", "math/bits.overflowError"], apart := false, narrowed := true }
def TrigSumsUptoSaid : Prop := trigSumsUptoRow.holds Try.pinned (OpenSpec.upto trigSumsSpec)

/-- 'tourkeep1.VecTurns', WHERE WHAT IT READS IS OF BULK AT MOST 1048576: true; the input reads as it did. -/
def vecTurnsUptoRow : OpenClaim := { program := "ytnadffanmnbfcaa", sum := "d468ec7c8ae28df1b16d97354dd7290cb1e095b48c4adfd104e03cb3c271c411", func := "tourney/tourkeep1.VecTurns", spec := "vecTurns", inPlace := ["math/bits.Add64"], named := ["math/bits.divideError", "math/bits.overflowError"], apart := false, narrowed := true }
def VecTurnsUptoSaid : Prop := vecTurnsUptoRow.holds Try.pinned (OpenSpec.upto vecTurnsSpec)

/-- 'tourkeep1.QuatUnits', WHERE WHAT IT READS IS OF BULK AT MOST 1048576: true; the input reads as it did. -/
def quatUnitsUptoRow : OpenClaim := { program := "ytnadffanmnbfcaa", sum := "d468ec7c8ae28df1b16d97354dd7290cb1e095b48c4adfd104e03cb3c271c411", func := "tourney/tourkeep1.QuatUnits", spec := "quatUnits", inPlace := ["math/bits.Add64"], unfollowed := true, recurses := true, named := ["math/bits.divideError", "math/bits.overflowError"], apart := false, narrowed := true }
def QuatUnitsUptoSaid : Prop := quatUnitsUptoRow.holds Try.pinned (OpenSpec.upto quatUnitsSpec)

/-- 'tourkeep1.QuatKeeps', WHERE WHAT IT READS IS OF BULK AT MOST 1048576: true; the input reads as it did. -/
def quatKeepsUptoRow : OpenClaim := { program := "ytnadffanmnbfcaa", sum := "d468ec7c8ae28df1b16d97354dd7290cb1e095b48c4adfd104e03cb3c271c411", func := "tourney/tourkeep1.QuatKeeps", spec := "quatKeeps", inPlace := ["math/bits.Add64"], unfollowed := true, recurses := true, named := ["math/bits.divideError", "math/bits.overflowError"], apart := false, narrowed := true }
def QuatKeepsUptoSaid : Prop := quatKeepsUptoRow.holds Try.pinned (OpenSpec.upto quatKeepsSpec)

/-- 'tourkeep1.QuatBlends', WHERE WHAT IT READS IS OF BULK AT MOST 1048576: true; the input reads as it did. -/
def quatBlendsUptoRow : OpenClaim := { program := "ytnadffanmnbfcaa", sum := "d468ec7c8ae28df1b16d97354dd7290cb1e095b48c4adfd104e03cb3c271c411", func := "tourney/tourkeep1.QuatBlends", spec := "quatBlends", inPlace := ["math/bits.Add64"], unfollowed := true, recurses := true, named := ["math/bits.divideError", "math/bits.overflowError"], apart := false, narrowed := true }
def QuatBlendsUptoSaid : Prop := quatBlendsUptoRow.holds Try.pinned (OpenSpec.upto quatBlendsSpec)

/-- 'tourkeep1.QuatPlane', WHERE WHAT IT READS IS OF BULK AT MOST 1048576: true; the input reads as it did. -/
def quatPlaneUptoRow : OpenClaim := { program := "ytnadffanmnbfcaa", sum := "d468ec7c8ae28df1b16d97354dd7290cb1e095b48c4adfd104e03cb3c271c411", func := "tourney/tourkeep1.QuatPlane", spec := "quatPlane", inPlace := ["math/bits.Add64"], unfollowed := true, recurses := true, named := ["math/bits.divideError", "math/bits.overflowError"], apart := false, narrowed := true }
def QuatPlaneUptoSaid : Prop := quatPlaneUptoRow.holds Try.pinned (OpenSpec.upto quatPlaneSpec)

end Rows
end Go.Proofs.Ytnadffanmnbfcaa
