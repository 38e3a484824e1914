/-
  No cell of these rows narrows 'for every input' (looked for: loops, veiled, ifaces, maps, wideKeys, modest, calm, conditions, laid).
  DERIVED. THE GIVEN ROWS OF THIS SEAT. 6 by the template 'for every input the law returns true; each argument reads behind the call as it read before'; 0 by the template 'total and deterministic' (their statements: YtimgjlogbkgiaaaTotals.lean).
  GIVEN WITH THE SEED: the statements are not yours to turn. If you find one false, say at which input.
  Laid BY PROGRAM, IN A SANDBOX (cutbox-rows.mjs): the forced cells as the released guide's own fill.sh prints them over the translation 2b07aee20c9c2b0f… (all of the seat's roots in one cut). By AI agents, Wed Nov 11 2026. No macro, syntax, notation, axiom, sorry.
-/
import Derived.Test.YtimgjlogbkgiaaaChecked
import GoSem.Claim
import GoSem.ClaimJoined
import GoSem.ClaimMapViews
import Derived.JoinedTies
import Derived.KernelRfl
namespace Go.Proofs.Ytimgjlogbkgiaaa
/- THE CELL 'sum', in the pinned program and in every row, IS THE sha256 OF THE DUMP (.gsa) THAT YtimgjlogbkgiaaaProg.lean LOADS. Nothing in Lean hashes anything: it is a label: what it is worth is what the hold of that sum in a sandbox is worth. -/
noncomputable def Try.pinned : Pinned := { name := "ytimgjlogbkgiaaa", sum := "2b07aee20c9c2b0f196ba4c77bc785a668fc3a0cc5840bc9736471e40e301988", checked := Try.checked }
namespace Rows
def none {H : Type} : Left H := { results := [], args := [] }

/-- 'frustumlaw36.BinningGrid': WHATEVER THE INPUT: true; the input reads as it did. -/
def binningGridSpec : ChangeSpec := { name := "binningGrid", fn := fun _ => fun
  | [d1, d2, d3] => { results := [.lit (.bool true)], args := [d1, d2, d3] }
  | _ => none }
def binningGridRow : OpenClaim := { program := "ytimgjlogbkgiaaa", sum := "2b07aee20c9c2b0f196ba4c77bc785a668fc3a0cc5840bc9736471e40e301988", func := "frustum/frustumlaw36.BinningGrid", spec := "binningGrid", apart := false }
def BinningGridSaid : Prop := binningGridRow.holds Try.pinned (OpenSpec.ofChange binningGridSpec)

/-- ITS FALSE NEIGHBOUR: 'it returns false'. Refute it at one input. -/
def binningGridWrong : ChangeSpec := { name := "binningGrid", fn := fun _ => fun
  | [d1, d2, d3] => { results := [.lit (.bool false)], args := [d1, d2, d3] }
  | _ => none }
def BinningGridWrongFalsely : Prop := binningGridRow.holds Try.pinned (OpenSpec.ofChange binningGridWrong)

/-- 'frustumlaw36.BinningPartition': WHATEVER THE INPUT: true; the input reads as it did. -/
def binningPartitionSpec : ChangeSpec := { name := "binningPartition", fn := fun _ => fun
  | [d1, d2] => { results := [.lit (.bool true)], args := [d1, d2] }
  | _ => none }
def binningPartitionRow : OpenClaim := { program := "ytimgjlogbkgiaaa", sum := "2b07aee20c9c2b0f196ba4c77bc785a668fc3a0cc5840bc9736471e40e301988", func := "frustum/frustumlaw36.BinningPartition", spec := "binningPartition", apart := false }
def BinningPartitionSaid : Prop := binningPartitionRow.holds Try.pinned (OpenSpec.ofChange binningPartitionSpec)

/-- ITS FALSE NEIGHBOUR: 'it returns false'. Refute it at one input. -/
def binningPartitionWrong : ChangeSpec := { name := "binningPartition", fn := fun _ => fun
  | [d1, d2] => { results := [.lit (.bool false)], args := [d1, d2] }
  | _ => none }
def BinningPartitionWrongFalsely : Prop := binningPartitionRow.holds Try.pinned (OpenSpec.ofChange binningPartitionWrong)

/-- 'frustumlaw36.BinningTouches': WHATEVER THE INPUT: true; the input reads as it did. -/
def binningTouchesSpec : ChangeSpec := { name := "binningTouches", fn := fun _ => fun
  | [d1, d2, d3] => { results := [.lit (.bool true)], args := [d1, d2, d3] }
  | _ => none }
def binningTouchesRow : OpenClaim := { program := "ytimgjlogbkgiaaa", sum := "2b07aee20c9c2b0f196ba4c77bc785a668fc3a0cc5840bc9736471e40e301988", func := "frustum/frustumlaw36.BinningTouches", spec := "binningTouches", apart := false }
def BinningTouchesSaid : Prop := binningTouchesRow.holds Try.pinned (OpenSpec.ofChange binningTouchesSpec)

/-- ITS FALSE NEIGHBOUR: 'it returns false'. Refute it at one input. -/
def binningTouchesWrong : ChangeSpec := { name := "binningTouches", fn := fun _ => fun
  | [d1, d2, d3] => { results := [.lit (.bool false)], args := [d1, d2, d3] }
  | _ => none }
def BinningTouchesWrongFalsely : Prop := binningTouchesRow.holds Try.pinned (OpenSpec.ofChange binningTouchesWrong)

/-- 'frustumlaw36.BinningBins': WHATEVER THE INPUT: true; the input reads as it did. -/
def binningBinsSpec : ChangeSpec := { name := "binningBins", fn := fun _ => fun
  | [d] => { results := [.lit (.bool true)], args := [d] }
  | _ => none }
def binningBinsRow : OpenClaim := { program := "ytimgjlogbkgiaaa", sum := "2b07aee20c9c2b0f196ba4c77bc785a668fc3a0cc5840bc9736471e40e301988", func := "frustum/frustumlaw36.BinningBins", spec := "binningBins", apart := false }
def BinningBinsSaid : Prop := binningBinsRow.holds Try.pinned (OpenSpec.ofChange binningBinsSpec)

/-- ITS FALSE NEIGHBOUR: 'it returns false'. Refute it at one input. -/
def binningBinsWrong : ChangeSpec := { name := "binningBins", fn := fun _ => fun
  | [d] => { results := [.lit (.bool false)], args := [d] }
  | _ => none }
def BinningBinsWrongFalsely : Prop := binningBinsRow.holds Try.pinned (OpenSpec.ofChange binningBinsWrong)

/-- 'frustumlaw36.BinningAscending': WHATEVER THE INPUT: true; the input reads as it did. -/
def binningAscendingSpec : ChangeSpec := { name := "binningAscending", fn := fun _ => fun
  | [d] => { results := [.lit (.bool true)], args := [d] }
  | _ => none }
def binningAscendingRow : OpenClaim := { program := "ytimgjlogbkgiaaa", sum := "2b07aee20c9c2b0f196ba4c77bc785a668fc3a0cc5840bc9736471e40e301988", func := "frustum/frustumlaw36.BinningAscending", spec := "binningAscending", apart := false }
def BinningAscendingSaid : Prop := binningAscendingRow.holds Try.pinned (OpenSpec.ofChange binningAscendingSpec)

/-- ITS FALSE NEIGHBOUR: 'it returns false'. Refute it at one input. -/
def binningAscendingWrong : ChangeSpec := { name := "binningAscending", fn := fun _ => fun
  | [d] => { results := [.lit (.bool false)], args := [d] }
  | _ => none }
def BinningAscendingWrongFalsely : Prop := binningAscendingRow.holds Try.pinned (OpenSpec.ofChange binningAscendingWrong)

/-- 'frustumlaw36.BinningComplete': WHATEVER THE INPUT: true; the input reads as it did. -/
def binningCompleteSpec : ChangeSpec := { name := "binningComplete", fn := fun _ => fun
  | [d1, d2, d3] => { results := [.lit (.bool true)], args := [d1, d2, d3] }
  | _ => none }
def binningCompleteRow : OpenClaim := { program := "ytimgjlogbkgiaaa", sum := "2b07aee20c9c2b0f196ba4c77bc785a668fc3a0cc5840bc9736471e40e301988", func := "frustum/frustumlaw36.BinningComplete", spec := "binningComplete", apart := false }
def BinningCompleteSaid : Prop := binningCompleteRow.holds Try.pinned (OpenSpec.ofChange binningCompleteSpec)

/-- ITS FALSE NEIGHBOUR: 'it returns false'. Refute it at one input. -/
def binningCompleteWrong : ChangeSpec := { name := "binningComplete", fn := fun _ => fun
  | [d1, d2, d3] => { results := [.lit (.bool false)], args := [d1, d2, d3] }
  | _ => none }
def BinningCompleteWrongFalsely : Prop := binningCompleteRow.holds Try.pinned (OpenSpec.ofChange binningCompleteWrong)

/- THE SECOND FORM. 'bulk': how many values and letters a reading holds, each counted each time it is reached (what is shared counts as often as it is met; a slice's spare places count too). A statement '..UptoSaid' is the law's where the arguments, and the package variables that the reading takes, are together of bulk at most 1048576: NARROWER than '..Said'. Prove '..Said' where nothing that the law and all that it calls make is longer than what came in: it says more and counts as full. Else prove '..UptoSaid'. A law counts once. -/
mutual
def uptoBulk {H : Type} : DataW H → Nat
  | .lit (.string bytes) => bytes.length + 1
  | .lit _ => 1
  | .nil => 1
  | .ptr d => uptoBulk d + 1
  | .slice elems spare => uptoBulkAll elems + uptoBulkAll spare + 1
  | .agg parts => uptoBulkAll parts + 1
  | .iface _ d => uptoBulk d + 1
  | .map entries => uptoBulkEntries entries + 1
  | .held _ => 1
def uptoBulkAll {H : Type} : List (DataW H) → Nat
  | [] => 0
  | d :: r => uptoBulk d + uptoBulkAll r
def uptoBulkEntries {H : Type} : List (Lit × DataW H) → Nat
  | [] => 0
  | x :: r => uptoBulkEntry x + uptoBulkEntries r
def uptoBulkEntry {H : Type} : Lit × DataW H → Nat
  | (.string bytes, d) => bytes.length + uptoBulk d + 1
  | (_, d) => uptoBulk d + 1
 end
def uptoSmall : (H : Type) → List (DataW H) → Bool := fun _ ds => decide (uptoBulkAll ds ≤ 1048576)
def OpenSpec.upto (s : _root_.Go.ChangeSpec) : _root_.Go.OpenSpec := { _root_.Go.OpenSpec.ofChange s with cond := some uptoSmall }

/-- 'frustumlaw36.BinningGrid', WHERE WHAT IT READS IS OF BULK AT MOST 1048576: true; the input reads as it did. -/
def binningGridUptoRow : OpenClaim := { program := "ytimgjlogbkgiaaa", sum := "2b07aee20c9c2b0f196ba4c77bc785a668fc3a0cc5840bc9736471e40e301988", func := "frustum/frustumlaw36.BinningGrid", spec := "binningGrid", apart := false, narrowed := true }
def BinningGridUptoSaid : Prop := binningGridUptoRow.holds Try.pinned (OpenSpec.upto binningGridSpec)

/-- 'frustumlaw36.BinningPartition', WHERE WHAT IT READS IS OF BULK AT MOST 1048576: true; the input reads as it did. -/
def binningPartitionUptoRow : OpenClaim := { program := "ytimgjlogbkgiaaa", sum := "2b07aee20c9c2b0f196ba4c77bc785a668fc3a0cc5840bc9736471e40e301988", func := "frustum/frustumlaw36.BinningPartition", spec := "binningPartition", apart := false, narrowed := true }
def BinningPartitionUptoSaid : Prop := binningPartitionUptoRow.holds Try.pinned (OpenSpec.upto binningPartitionSpec)

/-- 'frustumlaw36.BinningTouches', WHERE WHAT IT READS IS OF BULK AT MOST 1048576: true; the input reads as it did. -/
def binningTouchesUptoRow : OpenClaim := { program := "ytimgjlogbkgiaaa", sum := "2b07aee20c9c2b0f196ba4c77bc785a668fc3a0cc5840bc9736471e40e301988", func := "frustum/frustumlaw36.BinningTouches", spec := "binningTouches", apart := false, narrowed := true }
def BinningTouchesUptoSaid : Prop := binningTouchesUptoRow.holds Try.pinned (OpenSpec.upto binningTouchesSpec)

/-- 'frustumlaw36.BinningBins', WHERE WHAT IT READS IS OF BULK AT MOST 1048576: true; the input reads as it did. -/
def binningBinsUptoRow : OpenClaim := { program := "ytimgjlogbkgiaaa", sum := "2b07aee20c9c2b0f196ba4c77bc785a668fc3a0cc5840bc9736471e40e301988", func := "frustum/frustumlaw36.BinningBins", spec := "binningBins", apart := false, narrowed := true }
def BinningBinsUptoSaid : Prop := binningBinsUptoRow.holds Try.pinned (OpenSpec.upto binningBinsSpec)

/-- 'frustumlaw36.BinningAscending', WHERE WHAT IT READS IS OF BULK AT MOST 1048576: true; the input reads as it did. -/
def binningAscendingUptoRow : OpenClaim := { program := "ytimgjlogbkgiaaa", sum := "2b07aee20c9c2b0f196ba4c77bc785a668fc3a0cc5840bc9736471e40e301988", func := "frustum/frustumlaw36.BinningAscending", spec := "binningAscending", apart := false, narrowed := true }
def BinningAscendingUptoSaid : Prop := binningAscendingUptoRow.holds Try.pinned (OpenSpec.upto binningAscendingSpec)

/-- 'frustumlaw36.BinningComplete', WHERE WHAT IT READS IS OF BULK AT MOST 1048576: true; the input reads as it did. -/
def binningCompleteUptoRow : OpenClaim := { program := "ytimgjlogbkgiaaa", sum := "2b07aee20c9c2b0f196ba4c77bc785a668fc3a0cc5840bc9736471e40e301988", func := "frustum/frustumlaw36.BinningComplete", spec := "binningComplete", apart := false, narrowed := true }
def BinningCompleteUptoSaid : Prop := binningCompleteUptoRow.holds Try.pinned (OpenSpec.upto binningCompleteSpec)

end Rows
end Go.Proofs.Ytimgjlogbkgiaaa
