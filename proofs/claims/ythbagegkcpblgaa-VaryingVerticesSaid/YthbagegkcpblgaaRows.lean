/-
  No cell of these rows narrows 'for every input' (looked for: loops, veiled, ifaces, maps, wideKeys, modest, calm, conditions, laid).
  DERIVED. THE GIVEN ROWS OF THIS SEAT. 6 by the template 'for every input the law returns true; each argument reads behind the call as it read before'; 0 by the template 'total and deterministic' (their statements: YthbagegkcpblgaaTotals.lean).
  GIVEN WITH THE SEED: the statements are not yours to turn. If you find one false, say at which input.
  Laid BY PROGRAM, IN A SANDBOX (cutbox-rows.mjs): the forced cells as the released guide's own fill.sh prints them over the translation f6f8ccb41deb3cf5… (all of the seat's roots in one cut). By AI agents, Wed Nov 11 2026. No macro, syntax, notation, axiom, sorry.
-/
import Derived.Test.YthbagegkcpblgaaChecked
import GoSem.Claim
import GoSem.ClaimJoined
import GoSem.ClaimMapViews
import Derived.JoinedTies
import Derived.KernelRfl
namespace Go.Proofs.Ythbagegkcpblgaa
/- THE CELL 'sum', in the pinned program and in every row, IS THE sha256 OF THE DUMP (.gsa) THAT YthbagegkcpblgaaProg.lean LOADS. Nothing in Lean hashes anything: it is a label: what it is worth is what the hold of that sum in a sandbox is worth. -/
noncomputable def Try.pinned : Pinned := { name := "ythbagegkcpblgaa", sum := "f6f8ccb41deb3cf575f70d97860ed5b529c28145f60e3cd6d06a5799e1bdf147", checked := Try.checked }
namespace Rows
def none {H : Type} : Left H := { results := [], args := [] }

/-- 'frustumlaw37.VaryingValues': WHATEVER THE INPUT: true; the input reads as it did. -/
def varyingValuesSpec : ChangeSpec := { name := "varyingValues", fn := fun _ => fun
  | [d1, d2, d3] => { results := [.lit (.bool true)], args := [d1, d2, d3] }
  | _ => none }
def varyingValuesRow : OpenClaim := { program := "ythbagegkcpblgaa", sum := "f6f8ccb41deb3cf575f70d97860ed5b529c28145f60e3cd6d06a5799e1bdf147", func := "frustum/frustumlaw37.VaryingValues", spec := "varyingValues", recurses := true, apart := false }
def VaryingValuesSaid : Prop := varyingValuesRow.holds Try.pinned (OpenSpec.ofChange varyingValuesSpec)

/-- ITS FALSE NEIGHBOUR: 'it returns false'. Refute it at one input. -/
def varyingValuesWrong : ChangeSpec := { name := "varyingValues", fn := fun _ => fun
  | [d1, d2, d3] => { results := [.lit (.bool false)], args := [d1, d2, d3] }
  | _ => none }
def VaryingValuesWrongFalsely : Prop := varyingValuesRow.holds Try.pinned (OpenSpec.ofChange varyingValuesWrong)

/-- 'frustumlaw37.VaryingInputs': WHATEVER THE INPUT: true; the input reads as it did. -/
def varyingInputsSpec : ChangeSpec := { name := "varyingInputs", fn := fun _ => fun
  | [d1, d2, d3] => { results := [.lit (.bool true)], args := [d1, d2, d3] }
  | _ => none }
def varyingInputsRow : OpenClaim := { program := "ythbagegkcpblgaa", sum := "f6f8ccb41deb3cf575f70d97860ed5b529c28145f60e3cd6d06a5799e1bdf147", func := "frustum/frustumlaw37.VaryingInputs", spec := "varyingInputs", recurses := true, apart := false }
def VaryingInputsSaid : Prop := varyingInputsRow.holds Try.pinned (OpenSpec.ofChange varyingInputsSpec)

/-- ITS FALSE NEIGHBOUR: 'it returns false'. Refute it at one input. -/
def varyingInputsWrong : ChangeSpec := { name := "varyingInputs", fn := fun _ => fun
  | [d1, d2, d3] => { results := [.lit (.bool false)], args := [d1, d2, d3] }
  | _ => none }
def VaryingInputsWrongFalsely : Prop := varyingInputsRow.holds Try.pinned (OpenSpec.ofChange varyingInputsWrong)

/-- 'frustumlaw37.VaryingWeights': WHATEVER THE INPUT: true; the input reads as it did. -/
def varyingWeightsSpec : ChangeSpec := { name := "varyingWeights", fn := fun _ => fun
  | [d1, d2, d3] => { results := [.lit (.bool true)], args := [d1, d2, d3] }
  | _ => none }
def varyingWeightsRow : OpenClaim := { program := "ythbagegkcpblgaa", sum := "f6f8ccb41deb3cf575f70d97860ed5b529c28145f60e3cd6d06a5799e1bdf147", func := "frustum/frustumlaw37.VaryingWeights", spec := "varyingWeights", recurses := true, apart := false }
def VaryingWeightsSaid : Prop := varyingWeightsRow.holds Try.pinned (OpenSpec.ofChange varyingWeightsSpec)

/-- ITS FALSE NEIGHBOUR: 'it returns false'. Refute it at one input. -/
def varyingWeightsWrong : ChangeSpec := { name := "varyingWeights", fn := fun _ => fun
  | [d1, d2, d3] => { results := [.lit (.bool false)], args := [d1, d2, d3] }
  | _ => none }
def VaryingWeightsWrongFalsely : Prop := varyingWeightsRow.holds Try.pinned (OpenSpec.ofChange varyingWeightsWrong)

/-- 'frustumlaw37.VaryingRange': WHATEVER THE INPUT: true; the input reads as it did. -/
def varyingRangeSpec : ChangeSpec := { name := "varyingRange", fn := fun _ => fun
  | [d1, d2] => { results := [.lit (.bool true)], args := [d1, d2] }
  | _ => none }
def varyingRangeRow : OpenClaim := { program := "ythbagegkcpblgaa", sum := "f6f8ccb41deb3cf575f70d97860ed5b529c28145f60e3cd6d06a5799e1bdf147", func := "frustum/frustumlaw37.VaryingRange", spec := "varyingRange", recurses := true, apart := false }
def VaryingRangeSaid : Prop := varyingRangeRow.holds Try.pinned (OpenSpec.ofChange varyingRangeSpec)

/-- ITS FALSE NEIGHBOUR: 'it returns false'. Refute it at one input. -/
def varyingRangeWrong : ChangeSpec := { name := "varyingRange", fn := fun _ => fun
  | [d1, d2] => { results := [.lit (.bool false)], args := [d1, d2] }
  | _ => none }
def VaryingRangeWrongFalsely : Prop := varyingRangeRow.holds Try.pinned (OpenSpec.ofChange varyingRangeWrong)

/-- 'frustumlaw37.VaryingVertices': WHATEVER THE INPUT: true; the input reads as it did. -/
def varyingVerticesSpec : ChangeSpec := { name := "varyingVertices", fn := fun _ => fun
  | [d] => { results := [.lit (.bool true)], args := [d] }
  | _ => none }
def varyingVerticesRow : OpenClaim := { program := "ythbagegkcpblgaa", sum := "f6f8ccb41deb3cf575f70d97860ed5b529c28145f60e3cd6d06a5799e1bdf147", func := "frustum/frustumlaw37.VaryingVertices", spec := "varyingVertices", recurses := true, apart := false }
def VaryingVerticesSaid : Prop := varyingVerticesRow.holds Try.pinned (OpenSpec.ofChange varyingVerticesSpec)

/-- ITS FALSE NEIGHBOUR: 'it returns false'. Refute it at one input. -/
def varyingVerticesWrong : ChangeSpec := { name := "varyingVertices", fn := fun _ => fun
  | [d] => { results := [.lit (.bool false)], args := [d] }
  | _ => none }
def VaryingVerticesWrongFalsely : Prop := varyingVerticesRow.holds Try.pinned (OpenSpec.ofChange varyingVerticesWrong)

/-- 'frustumlaw37.VaryingConstant': WHATEVER THE INPUT: true; the input reads as it did. -/
def varyingConstantSpec : ChangeSpec := { name := "varyingConstant", fn := fun _ => fun
  | [d1, d2, d3] => { results := [.lit (.bool true)], args := [d1, d2, d3] }
  | _ => none }
def varyingConstantRow : OpenClaim := { program := "ythbagegkcpblgaa", sum := "f6f8ccb41deb3cf575f70d97860ed5b529c28145f60e3cd6d06a5799e1bdf147", func := "frustum/frustumlaw37.VaryingConstant", spec := "varyingConstant", recurses := true, apart := false }
def VaryingConstantSaid : Prop := varyingConstantRow.holds Try.pinned (OpenSpec.ofChange varyingConstantSpec)

/-- ITS FALSE NEIGHBOUR: 'it returns false'. Refute it at one input. -/
def varyingConstantWrong : ChangeSpec := { name := "varyingConstant", fn := fun _ => fun
  | [d1, d2, d3] => { results := [.lit (.bool false)], args := [d1, d2, d3] }
  | _ => none }
def VaryingConstantWrongFalsely : Prop := varyingConstantRow.holds Try.pinned (OpenSpec.ofChange varyingConstantWrong)

/- THE SECOND FORM. 'bulk': how many values and letters a reading holds, each counted each time it is reached (what is shared counts as often as it is met; a slice's spare places count too). A statement '..UptoSaid' is the law's where the arguments, and the package variables that the reading takes, are together of bulk at most 1048576: NARROWER than '..Said'. Prove '..Said' where nothing that the law and all that it calls make is longer than what came in: it says more and counts as full. Else prove '..UptoSaid'. A law counts once. -/
mutual
def uptoBulk {H : Type} : DataW H → Nat
  | .lit (.string bytes) => bytes.length + 1
  | .lit _ => 1
  | .nil => 1
  | .ptr d => uptoBulk d + 1
  | .slice elems spare => uptoBulkAll elems + uptoBulkAll spare + 1
  | .agg parts => uptoBulkAll parts + 1
  | .iface _ d => uptoBulk d + 1
  | .map entries => uptoBulkEntries entries + 1
  | .held _ => 1
def uptoBulkAll {H : Type} : List (DataW H) → Nat
  | [] => 0
  | d :: r => uptoBulk d + uptoBulkAll r
def uptoBulkEntries {H : Type} : List (Lit × DataW H) → Nat
  | [] => 0
  | x :: r => uptoBulkEntry x + uptoBulkEntries r
def uptoBulkEntry {H : Type} : Lit × DataW H → Nat
  | (.string bytes, d) => bytes.length + uptoBulk d + 1
  | (_, d) => uptoBulk d + 1
 end
def uptoSmall : (H : Type) → List (DataW H) → Bool := fun _ ds => decide (uptoBulkAll ds ≤ 1048576)
def OpenSpec.upto (s : _root_.Go.ChangeSpec) : _root_.Go.OpenSpec := { _root_.Go.OpenSpec.ofChange s with cond := some uptoSmall }

/-- 'frustumlaw37.VaryingValues', WHERE WHAT IT READS IS OF BULK AT MOST 1048576: true; the input reads as it did. -/
def varyingValuesUptoRow : OpenClaim := { program := "ythbagegkcpblgaa", sum := "f6f8ccb41deb3cf575f70d97860ed5b529c28145f60e3cd6d06a5799e1bdf147", func := "frustum/frustumlaw37.VaryingValues", spec := "varyingValues", recurses := true, apart := false, narrowed := true }
def VaryingValuesUptoSaid : Prop := varyingValuesUptoRow.holds Try.pinned (OpenSpec.upto varyingValuesSpec)

/-- 'frustumlaw37.VaryingInputs', WHERE WHAT IT READS IS OF BULK AT MOST 1048576: true; the input reads as it did. -/
def varyingInputsUptoRow : OpenClaim := { program := "ythbagegkcpblgaa", sum := "f6f8ccb41deb3cf575f70d97860ed5b529c28145f60e3cd6d06a5799e1bdf147", func := "frustum/frustumlaw37.VaryingInputs", spec := "varyingInputs", recurses := true, apart := false, narrowed := true }
def VaryingInputsUptoSaid : Prop := varyingInputsUptoRow.holds Try.pinned (OpenSpec.upto varyingInputsSpec)

/-- 'frustumlaw37.VaryingWeights', WHERE WHAT IT READS IS OF BULK AT MOST 1048576: true; the input reads as it did. -/
def varyingWeightsUptoRow : OpenClaim := { program := "ythbagegkcpblgaa", sum := "f6f8ccb41deb3cf575f70d97860ed5b529c28145f60e3cd6d06a5799e1bdf147", func := "frustum/frustumlaw37.VaryingWeights", spec := "varyingWeights", recurses := true, apart := false, narrowed := true }
def VaryingWeightsUptoSaid : Prop := varyingWeightsUptoRow.holds Try.pinned (OpenSpec.upto varyingWeightsSpec)

/-- 'frustumlaw37.VaryingRange', WHERE WHAT IT READS IS OF BULK AT MOST 1048576: true; the input reads as it did. -/
def varyingRangeUptoRow : OpenClaim := { program := "ythbagegkcpblgaa", sum := "f6f8ccb41deb3cf575f70d97860ed5b529c28145f60e3cd6d06a5799e1bdf147", func := "frustum/frustumlaw37.VaryingRange", spec := "varyingRange", recurses := true, apart := false, narrowed := true }
def VaryingRangeUptoSaid : Prop := varyingRangeUptoRow.holds Try.pinned (OpenSpec.upto varyingRangeSpec)

/-- 'frustumlaw37.VaryingVertices', WHERE WHAT IT READS IS OF BULK AT MOST 1048576: true; the input reads as it did. -/
def varyingVerticesUptoRow : OpenClaim := { program := "ythbagegkcpblgaa", sum := "f6f8ccb41deb3cf575f70d97860ed5b529c28145f60e3cd6d06a5799e1bdf147", func := "frustum/frustumlaw37.VaryingVertices", spec := "varyingVertices", recurses := true, apart := false, narrowed := true }
def VaryingVerticesUptoSaid : Prop := varyingVerticesUptoRow.holds Try.pinned (OpenSpec.upto varyingVerticesSpec)

/-- 'frustumlaw37.VaryingConstant', WHERE WHAT IT READS IS OF BULK AT MOST 1048576: true; the input reads as it did. -/
def varyingConstantUptoRow : OpenClaim := { program := "ythbagegkcpblgaa", sum := "f6f8ccb41deb3cf575f70d97860ed5b529c28145f60e3cd6d06a5799e1bdf147", func := "frustum/frustumlaw37.VaryingConstant", spec := "varyingConstant", recurses := true, apart := false, narrowed := true }
def VaryingConstantUptoSaid : Prop := varyingConstantUptoRow.holds Try.pinned (OpenSpec.upto varyingConstantSpec)

end Rows
end Go.Proofs.Ythbagegkcpblgaa
