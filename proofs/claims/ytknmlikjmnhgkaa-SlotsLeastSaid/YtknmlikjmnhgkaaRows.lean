/-
  No cell of these rows narrows 'for every input' (looked for: loops, veiled, ifaces, maps, wideKeys, modest, calm, conditions, laid).
  DERIVED. THE GIVEN ROWS OF THIS SEAT. 8 by the template 'for every input the law returns true; each argument reads behind the call as it read before'; 0 by the template 'total and deterministic' (their statements: YtknmlikjmnhgkaaTotals.lean).
  GIVEN WITH THE SEED: the statements are not yours to turn. If you find one false, say at which input.
  Laid BY PROGRAM, IN A SANDBOX (cutbox-rows.mjs): the forced cells as the released guide's own fill.sh prints them over the translation 54f0372fdc13f82b… (all of the seat's roots in one cut). By AI agents, Wed Nov 11 2026. No macro, syntax, notation, axiom, sorry.
-/
import Derived.Test.YtknmlikjmnhgkaaChecked
import GoSem.Claim
import GoSem.ClaimJoined
import GoSem.ClaimMapViews
import Derived.JoinedTies
import Derived.KernelRfl
namespace Go.Proofs.Ytknmlikjmnhgkaa
/- THE CELL 'sum', in the pinned program and in every row, IS THE sha256 OF THE DUMP (.gsa) THAT YtknmlikjmnhgkaaProg.lean LOADS. Nothing in Lean hashes anything: it is a label: what it is worth is what the hold of that sum in a sandbox is worth. -/
noncomputable def Try.pinned : Pinned := { name := "ytknmlikjmnhgkaa", sum := "54f0372fdc13f82b49cf8e542772f9e7321693780c3249d35d400cc12432e59f", checked := Try.checked }
namespace Rows
def none {H : Type} : Left H := { results := [], args := [] }

/-- 'tourkeep1.QueueSteady': WHATEVER THE INPUT: true; the input reads as it did. -/
def queueSteadySpec : ChangeSpec := { name := "queueSteady", fn := fun _ => fun
  | [d1, d2] => { results := [.lit (.bool true)], args := [d1, d2] }
  | _ => none }
def queueSteadyRow : OpenClaim := { program := "ytknmlikjmnhgkaa", sum := "54f0372fdc13f82b49cf8e542772f9e7321693780c3249d35d400cc12432e59f", func := "tourney/tourkeep1.QueueSteady", spec := "queueSteady", apart := false }
def QueueSteadySaid : Prop := queueSteadyRow.holds Try.pinned (OpenSpec.ofChange queueSteadySpec)

/-- ITS FALSE NEIGHBOUR: 'it returns false'. Refute it at one input. -/
def queueSteadyWrong : ChangeSpec := { name := "queueSteady", fn := fun _ => fun
  | [d1, d2] => { results := [.lit (.bool false)], args := [d1, d2] }
  | _ => none }
def QueueSteadyWrongFalsely : Prop := queueSteadyRow.holds Try.pinned (OpenSpec.ofChange queueSteadyWrong)

/-- 'tourkeep1.SetsBoole': WHATEVER THE INPUT: true; the input reads as it did. -/
def setsBooleSpec : ChangeSpec := { name := "setsBoole", fn := fun _ => fun
  | [d1, d2, d3] => { results := [.lit (.bool true)], args := [d1, d2, d3] }
  | _ => none }
def setsBooleRow : OpenClaim := { program := "ytknmlikjmnhgkaa", sum := "54f0372fdc13f82b49cf8e542772f9e7321693780c3249d35d400cc12432e59f", func := "tourney/tourkeep1.SetsBoole", spec := "setsBoole", unfollowed := true, recurses := true, apart := false }
def SetsBooleSaid : Prop := setsBooleRow.holds Try.pinned (OpenSpec.ofChange setsBooleSpec)

/-- ITS FALSE NEIGHBOUR: 'it returns false'. Refute it at one input. -/
def setsBooleWrong : ChangeSpec := { name := "setsBoole", fn := fun _ => fun
  | [d1, d2, d3] => { results := [.lit (.bool false)], args := [d1, d2, d3] }
  | _ => none }
def SetsBooleWrongFalsely : Prop := setsBooleRow.holds Try.pinned (OpenSpec.ofChange setsBooleWrong)

/-- 'tourkeep1.SetsMembers': WHATEVER THE INPUT: true; the input reads as it did. -/
def setsMembersSpec : ChangeSpec := { name := "setsMembers", fn := fun _ => fun
  | [d1, d2] => { results := [.lit (.bool true)], args := [d1, d2] }
  | _ => none }
def setsMembersRow : OpenClaim := { program := "ytknmlikjmnhgkaa", sum := "54f0372fdc13f82b49cf8e542772f9e7321693780c3249d35d400cc12432e59f", func := "tourney/tourkeep1.SetsMembers", spec := "setsMembers", unfollowed := true, recurses := true, apart := false }
def SetsMembersSaid : Prop := setsMembersRow.holds Try.pinned (OpenSpec.ofChange setsMembersSpec)

/-- ITS FALSE NEIGHBOUR: 'it returns false'. Refute it at one input. -/
def setsMembersWrong : ChangeSpec := { name := "setsMembers", fn := fun _ => fun
  | [d1, d2] => { results := [.lit (.bool false)], args := [d1, d2] }
  | _ => none }
def SetsMembersWrongFalsely : Prop := setsMembersRow.holds Try.pinned (OpenSpec.ofChange setsMembersWrong)

/-- 'tourkeep1.MerkleFinds': WHATEVER THE INPUT: true; the input reads as it did. -/
def merkleFindsSpec : ChangeSpec := { name := "merkleFinds", fn := fun _ => fun
  | [d1, d2, d3] => { results := [.lit (.bool true)], args := [d1, d2, d3] }
  | _ => none }
def merkleFindsRow : OpenClaim := { program := "ytknmlikjmnhgkaa", sum := "54f0372fdc13f82b49cf8e542772f9e7321693780c3249d35d400cc12432e59f", func := "tourney/tourkeep1.MerkleFinds", spec := "merkleFinds", apart := false }
def MerkleFindsSaid : Prop := merkleFindsRow.holds Try.pinned (OpenSpec.ofChange merkleFindsSpec)

/-- ITS FALSE NEIGHBOUR: 'it returns false'. Refute it at one input. -/
def merkleFindsWrong : ChangeSpec := { name := "merkleFinds", fn := fun _ => fun
  | [d1, d2, d3] => { results := [.lit (.bool false)], args := [d1, d2, d3] }
  | _ => none }
def MerkleFindsWrongFalsely : Prop := merkleFindsRow.holds Try.pinned (OpenSpec.ofChange merkleFindsWrong)

/-- 'tourkeep1.QueueOrder': WHATEVER THE INPUT: true; the input reads as it did. -/
def queueOrderSpec : ChangeSpec := { name := "queueOrder", fn := fun _ => fun
  | [d] => { results := [.lit (.bool true)], args := [d] }
  | _ => none }
def queueOrderRow : OpenClaim := { program := "ytknmlikjmnhgkaa", sum := "54f0372fdc13f82b49cf8e542772f9e7321693780c3249d35d400cc12432e59f", func := "tourney/tourkeep1.QueueOrder", spec := "queueOrder", apart := false }
def QueueOrderSaid : Prop := queueOrderRow.holds Try.pinned (OpenSpec.ofChange queueOrderSpec)

/-- ITS FALSE NEIGHBOUR: 'it returns false'. Refute it at one input. -/
def queueOrderWrong : ChangeSpec := { name := "queueOrder", fn := fun _ => fun
  | [d] => { results := [.lit (.bool false)], args := [d] }
  | _ => none }
def QueueOrderWrongFalsely : Prop := queueOrderRow.holds Try.pinned (OpenSpec.ofChange queueOrderWrong)

/-- 'tourkeep1.SlotsOld': WHATEVER THE INPUT: true; the input reads as it did. -/
def slotsOldSpec : ChangeSpec := { name := "slotsOld", fn := fun _ => fun
  | [d] => { results := [.lit (.bool true)], args := [d] }
  | _ => none }
def slotsOldRow : OpenClaim := { program := "ytknmlikjmnhgkaa", sum := "54f0372fdc13f82b49cf8e542772f9e7321693780c3249d35d400cc12432e59f", func := "tourney/tourkeep1.SlotsOld", spec := "slotsOld", unfollowed := true, recurses := true, apart := false }
def SlotsOldSaid : Prop := slotsOldRow.holds Try.pinned (OpenSpec.ofChange slotsOldSpec)

/-- ITS FALSE NEIGHBOUR: 'it returns false'. Refute it at one input. -/
def slotsOldWrong : ChangeSpec := { name := "slotsOld", fn := fun _ => fun
  | [d] => { results := [.lit (.bool false)], args := [d] }
  | _ => none }
def SlotsOldWrongFalsely : Prop := slotsOldRow.holds Try.pinned (OpenSpec.ofChange slotsOldWrong)

/-- 'tourkeep1.MerkleProofs': WHATEVER THE INPUT: true; the input reads as it did. -/
def merkleProofsSpec : ChangeSpec := { name := "merkleProofs", fn := fun _ => fun
  | [d1, d2, d3] => { results := [.lit (.bool true)], args := [d1, d2, d3] }
  | _ => none }
def merkleProofsRow : OpenClaim := { program := "ytknmlikjmnhgkaa", sum := "54f0372fdc13f82b49cf8e542772f9e7321693780c3249d35d400cc12432e59f", func := "tourney/tourkeep1.MerkleProofs", spec := "merkleProofs", apart := false }
def MerkleProofsSaid : Prop := merkleProofsRow.holds Try.pinned (OpenSpec.ofChange merkleProofsSpec)

/-- ITS FALSE NEIGHBOUR: 'it returns false'. Refute it at one input. -/
def merkleProofsWrong : ChangeSpec := { name := "merkleProofs", fn := fun _ => fun
  | [d1, d2, d3] => { results := [.lit (.bool false)], args := [d1, d2, d3] }
  | _ => none }
def MerkleProofsWrongFalsely : Prop := merkleProofsRow.holds Try.pinned (OpenSpec.ofChange merkleProofsWrong)

/-- 'tourkeep1.SlotsLeast': WHATEVER THE INPUT: true; the input reads as it did. -/
def slotsLeastSpec : ChangeSpec := { name := "slotsLeast", fn := fun _ => fun
  | [d1, d2] => { results := [.lit (.bool true)], args := [d1, d2] }
  | _ => none }
def slotsLeastRow : OpenClaim := { program := "ytknmlikjmnhgkaa", sum := "54f0372fdc13f82b49cf8e542772f9e7321693780c3249d35d400cc12432e59f", func := "tourney/tourkeep1.SlotsLeast", spec := "slotsLeast", unfollowed := true, recurses := true, apart := false }
def SlotsLeastSaid : Prop := slotsLeastRow.holds Try.pinned (OpenSpec.ofChange slotsLeastSpec)

/-- ITS FALSE NEIGHBOUR: 'it returns false'. Refute it at one input. -/
def slotsLeastWrong : ChangeSpec := { name := "slotsLeast", fn := fun _ => fun
  | [d1, d2] => { results := [.lit (.bool false)], args := [d1, d2] }
  | _ => none }
def SlotsLeastWrongFalsely : Prop := slotsLeastRow.holds Try.pinned (OpenSpec.ofChange slotsLeastWrong)

/- THE SECOND FORM. 'bulk': how many values and letters a reading holds, each counted each time it is reached (what is shared counts as often as it is met; a slice's spare places count too). A statement '..UptoSaid' is the law's where the arguments, and the package variables that the reading takes, are together of bulk at most 1048576: NARROWER than '..Said'. Prove '..Said' where nothing that the law and all that it calls make is longer than what came in: it says more and counts as full. Else prove '..UptoSaid'. A law counts once. -/
mutual
def uptoBulk {H : Type} : DataW H → Nat
  | .lit (.string bytes) => bytes.length + 1
  | .lit _ => 1
  | .nil => 1
  | .ptr d => uptoBulk d + 1
  | .slice elems spare => uptoBulkAll elems + uptoBulkAll spare + 1
  | .agg parts => uptoBulkAll parts + 1
  | .iface _ d => uptoBulk d + 1
  | .map entries => uptoBulkEntries entries + 1
  | .held _ => 1
def uptoBulkAll {H : Type} : List (DataW H) → Nat
  | [] => 0
  | d :: r => uptoBulk d + uptoBulkAll r
def uptoBulkEntries {H : Type} : List (Lit × DataW H) → Nat
  | [] => 0
  | x :: r => uptoBulkEntry x + uptoBulkEntries r
def uptoBulkEntry {H : Type} : Lit × DataW H → Nat
  | (.string bytes, d) => bytes.length + uptoBulk d + 1
  | (_, d) => uptoBulk d + 1
 end
def uptoSmall : (H : Type) → List (DataW H) → Bool := fun _ ds => decide (uptoBulkAll ds ≤ 1048576)
def OpenSpec.upto (s : _root_.Go.ChangeSpec) : _root_.Go.OpenSpec := { _root_.Go.OpenSpec.ofChange s with cond := some uptoSmall }

/-- 'tourkeep1.QueueSteady', WHERE WHAT IT READS IS OF BULK AT MOST 1048576: true; the input reads as it did. -/
def queueSteadyUptoRow : OpenClaim := { program := "ytknmlikjmnhgkaa", sum := "54f0372fdc13f82b49cf8e542772f9e7321693780c3249d35d400cc12432e59f", func := "tourney/tourkeep1.QueueSteady", spec := "queueSteady", apart := false, narrowed := true }
def QueueSteadyUptoSaid : Prop := queueSteadyUptoRow.holds Try.pinned (OpenSpec.upto queueSteadySpec)

/-- 'tourkeep1.SetsBoole', WHERE WHAT IT READS IS OF BULK AT MOST 1048576: true; the input reads as it did. -/
def setsBooleUptoRow : OpenClaim := { program := "ytknmlikjmnhgkaa", sum := "54f0372fdc13f82b49cf8e542772f9e7321693780c3249d35d400cc12432e59f", func := "tourney/tourkeep1.SetsBoole", spec := "setsBoole", unfollowed := true, recurses := true, apart := false, narrowed := true }
def SetsBooleUptoSaid : Prop := setsBooleUptoRow.holds Try.pinned (OpenSpec.upto setsBooleSpec)

/-- 'tourkeep1.SetsMembers', WHERE WHAT IT READS IS OF BULK AT MOST 1048576: true; the input reads as it did. -/
def setsMembersUptoRow : OpenClaim := { program := "ytknmlikjmnhgkaa", sum := "54f0372fdc13f82b49cf8e542772f9e7321693780c3249d35d400cc12432e59f", func := "tourney/tourkeep1.SetsMembers", spec := "setsMembers", unfollowed := true, recurses := true, apart := false, narrowed := true }
def SetsMembersUptoSaid : Prop := setsMembersUptoRow.holds Try.pinned (OpenSpec.upto setsMembersSpec)

/-- 'tourkeep1.MerkleFinds', WHERE WHAT IT READS IS OF BULK AT MOST 1048576: true; the input reads as it did. -/
def merkleFindsUptoRow : OpenClaim := { program := "ytknmlikjmnhgkaa", sum := "54f0372fdc13f82b49cf8e542772f9e7321693780c3249d35d400cc12432e59f", func := "tourney/tourkeep1.MerkleFinds", spec := "merkleFinds", apart := false, narrowed := true }
def MerkleFindsUptoSaid : Prop := merkleFindsUptoRow.holds Try.pinned (OpenSpec.upto merkleFindsSpec)

/-- 'tourkeep1.QueueOrder', WHERE WHAT IT READS IS OF BULK AT MOST 1048576: true; the input reads as it did. -/
def queueOrderUptoRow : OpenClaim := { program := "ytknmlikjmnhgkaa", sum := "54f0372fdc13f82b49cf8e542772f9e7321693780c3249d35d400cc12432e59f", func := "tourney/tourkeep1.QueueOrder", spec := "queueOrder", apart := false, narrowed := true }
def QueueOrderUptoSaid : Prop := queueOrderUptoRow.holds Try.pinned (OpenSpec.upto queueOrderSpec)

/-- 'tourkeep1.SlotsOld', WHERE WHAT IT READS IS OF BULK AT MOST 1048576: true; the input reads as it did. -/
def slotsOldUptoRow : OpenClaim := { program := "ytknmlikjmnhgkaa", sum := "54f0372fdc13f82b49cf8e542772f9e7321693780c3249d35d400cc12432e59f", func := "tourney/tourkeep1.SlotsOld", spec := "slotsOld", unfollowed := true, recurses := true, apart := false, narrowed := true }
def SlotsOldUptoSaid : Prop := slotsOldUptoRow.holds Try.pinned (OpenSpec.upto slotsOldSpec)

/-- 'tourkeep1.MerkleProofs', WHERE WHAT IT READS IS OF BULK AT MOST 1048576: true; the input reads as it did. -/
def merkleProofsUptoRow : OpenClaim := { program := "ytknmlikjmnhgkaa", sum := "54f0372fdc13f82b49cf8e542772f9e7321693780c3249d35d400cc12432e59f", func := "tourney/tourkeep1.MerkleProofs", spec := "merkleProofs", apart := false, narrowed := true }
def MerkleProofsUptoSaid : Prop := merkleProofsUptoRow.holds Try.pinned (OpenSpec.upto merkleProofsSpec)

/-- 'tourkeep1.SlotsLeast', WHERE WHAT IT READS IS OF BULK AT MOST 1048576: true; the input reads as it did. -/
def slotsLeastUptoRow : OpenClaim := { program := "ytknmlikjmnhgkaa", sum := "54f0372fdc13f82b49cf8e542772f9e7321693780c3249d35d400cc12432e59f", func := "tourney/tourkeep1.SlotsLeast", spec := "slotsLeast", unfollowed := true, recurses := true, apart := false, narrowed := true }
def SlotsLeastUptoSaid : Prop := slotsLeastUptoRow.holds Try.pinned (OpenSpec.upto slotsLeastSpec)

end Rows
end Go.Proofs.Ytknmlikjmnhgkaa
