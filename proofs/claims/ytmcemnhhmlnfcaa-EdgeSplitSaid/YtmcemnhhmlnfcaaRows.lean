/-
  No cell of these rows narrows 'for every input' (looked for: loops, veiled, ifaces, maps, wideKeys, modest, calm, conditions, laid).
  DERIVED. THE GIVEN ROWS OF THIS SEAT. 7 by the template 'for every input the law returns true; each argument reads behind the call as it read before'; 0 by the template 'total and deterministic' (their statements: YtmcemnhhmlnfcaaTotals.lean).
  GIVEN WITH THE SEED: the statements are not yours to turn. If you find one false, say at which input.
  Laid BY PROGRAM, IN A SANDBOX (cutbox-rows.mjs): the forced cells as the released guide's own fill.sh prints them over the translation debba75ef0579685… (all of the seat's roots in one cut). By AI agents, Wed Nov 11 2026. No macro, syntax, notation, axiom, sorry.
-/
import Derived.Test.YtmcemnhhmlnfcaaChecked
import GoSem.Claim
import GoSem.ClaimJoined
import GoSem.ClaimMapViews
import Derived.JoinedTies
import Derived.KernelRfl
namespace Go.Proofs.Ytmcemnhhmlnfcaa
/- THE CELL 'sum', in the pinned program and in every row, IS THE sha256 OF THE DUMP (.gsa) THAT YtmcemnhhmlnfcaaProg.lean LOADS. Nothing in Lean hashes anything: it is a label: what it is worth is what the hold of that sum in a sandbox is worth. -/
noncomputable def Try.pinned : Pinned := { name := "ytmcemnhhmlnfcaa", sum := "debba75ef0579685665b19fce4c981b5e13a70ef6f8dacb35acdf5918dfb3f83", checked := Try.checked }
namespace Rows
def none {H : Type} : Left H := { results := [], args := [] }

/-- 'frustumlaw34.EdgeShared': WHATEVER THE INPUT: true; the input reads as it did. -/
def edgeSharedSpec : ChangeSpec := { name := "edgeShared", fn := fun _ => fun
  | [d1, d2, d3] => { results := [.lit (.bool true)], args := [d1, d2, d3] }
  | _ => none }
def edgeSharedRow : OpenClaim := { program := "ytmcemnhhmlnfcaa", sum := "debba75ef0579685665b19fce4c981b5e13a70ef6f8dacb35acdf5918dfb3f83", func := "frustum/frustumlaw34.EdgeShared", spec := "edgeShared", apart := false }
def EdgeSharedSaid : Prop := edgeSharedRow.holds Try.pinned (OpenSpec.ofChange edgeSharedSpec)

/-- ITS FALSE NEIGHBOUR: 'it returns false'. Refute it at one input. -/
def edgeSharedWrong : ChangeSpec := { name := "edgeShared", fn := fun _ => fun
  | [d1, d2, d3] => { results := [.lit (.bool false)], args := [d1, d2, d3] }
  | _ => none }
def EdgeSharedWrongFalsely : Prop := edgeSharedRow.holds Try.pinned (OpenSpec.ofChange edgeSharedWrong)

/-- 'frustumlaw34.EdgeFunctions': WHATEVER THE INPUT: true; the input reads as it did. -/
def edgeFunctionsSpec : ChangeSpec := { name := "edgeFunctions", fn := fun _ => fun
  | [d1, d2, d3] => { results := [.lit (.bool true)], args := [d1, d2, d3] }
  | _ => none }
def edgeFunctionsRow : OpenClaim := { program := "ytmcemnhhmlnfcaa", sum := "debba75ef0579685665b19fce4c981b5e13a70ef6f8dacb35acdf5918dfb3f83", func := "frustum/frustumlaw34.EdgeFunctions", spec := "edgeFunctions", apart := false }
def EdgeFunctionsSaid : Prop := edgeFunctionsRow.holds Try.pinned (OpenSpec.ofChange edgeFunctionsSpec)

/-- ITS FALSE NEIGHBOUR: 'it returns false'. Refute it at one input. -/
def edgeFunctionsWrong : ChangeSpec := { name := "edgeFunctions", fn := fun _ => fun
  | [d1, d2, d3] => { results := [.lit (.bool false)], args := [d1, d2, d3] }
  | _ => none }
def EdgeFunctionsWrongFalsely : Prop := edgeFunctionsRow.holds Try.pinned (OpenSpec.ofChange edgeFunctionsWrong)

/-- 'frustumlaw34.EdgeWeightsSum': WHATEVER THE INPUT: true; the input reads as it did. -/
def edgeWeightsSumSpec : ChangeSpec := { name := "edgeWeightsSum", fn := fun _ => fun
  | [d1, d2, d3] => { results := [.lit (.bool true)], args := [d1, d2, d3] }
  | _ => none }
def edgeWeightsSumRow : OpenClaim := { program := "ytmcemnhhmlnfcaa", sum := "debba75ef0579685665b19fce4c981b5e13a70ef6f8dacb35acdf5918dfb3f83", func := "frustum/frustumlaw34.EdgeWeightsSum", spec := "edgeWeightsSum", apart := false }
def EdgeWeightsSumSaid : Prop := edgeWeightsSumRow.holds Try.pinned (OpenSpec.ofChange edgeWeightsSumSpec)

/-- ITS FALSE NEIGHBOUR: 'it returns false'. Refute it at one input. -/
def edgeWeightsSumWrong : ChangeSpec := { name := "edgeWeightsSum", fn := fun _ => fun
  | [d1, d2, d3] => { results := [.lit (.bool false)], args := [d1, d2, d3] }
  | _ => none }
def EdgeWeightsSumWrongFalsely : Prop := edgeWeightsSumRow.holds Try.pinned (OpenSpec.ofChange edgeWeightsSumWrong)

/-- 'frustumlaw34.EdgeDisjoint': WHATEVER THE INPUT: true; the input reads as it did. -/
def edgeDisjointSpec : ChangeSpec := { name := "edgeDisjoint", fn := fun _ => fun
  | [d1, d2] => { results := [.lit (.bool true)], args := [d1, d2] }
  | _ => none }
def edgeDisjointRow : OpenClaim := { program := "ytmcemnhhmlnfcaa", sum := "debba75ef0579685665b19fce4c981b5e13a70ef6f8dacb35acdf5918dfb3f83", func := "frustum/frustumlaw34.EdgeDisjoint", spec := "edgeDisjoint", apart := false }
def EdgeDisjointSaid : Prop := edgeDisjointRow.holds Try.pinned (OpenSpec.ofChange edgeDisjointSpec)

/-- ITS FALSE NEIGHBOUR: 'it returns false'. Refute it at one input. -/
def edgeDisjointWrong : ChangeSpec := { name := "edgeDisjoint", fn := fun _ => fun
  | [d1, d2] => { results := [.lit (.bool false)], args := [d1, d2] }
  | _ => none }
def EdgeDisjointWrongFalsely : Prop := edgeDisjointRow.holds Try.pinned (OpenSpec.ofChange edgeDisjointWrong)

/-- 'frustumlaw34.EdgeSplit': WHATEVER THE INPUT: true; the input reads as it did. -/
def edgeSplitSpec : ChangeSpec := { name := "edgeSplit", fn := fun _ => fun
  | [d1, d2, d3] => { results := [.lit (.bool true)], args := [d1, d2, d3] }
  | _ => none }
def edgeSplitRow : OpenClaim := { program := "ytmcemnhhmlnfcaa", sum := "debba75ef0579685665b19fce4c981b5e13a70ef6f8dacb35acdf5918dfb3f83", func := "frustum/frustumlaw34.EdgeSplit", spec := "edgeSplit", apart := false }
def EdgeSplitSaid : Prop := edgeSplitRow.holds Try.pinned (OpenSpec.ofChange edgeSplitSpec)

/-- ITS FALSE NEIGHBOUR: 'it returns false'. Refute it at one input. -/
def edgeSplitWrong : ChangeSpec := { name := "edgeSplit", fn := fun _ => fun
  | [d1, d2, d3] => { results := [.lit (.bool false)], args := [d1, d2, d3] }
  | _ => none }
def EdgeSplitWrongFalsely : Prop := edgeSplitRow.holds Try.pinned (OpenSpec.ofChange edgeSplitWrong)

/-- 'frustumlaw34.EdgeCovers': WHATEVER THE INPUT: true; the input reads as it did. -/
def edgeCoversSpec : ChangeSpec := { name := "edgeCovers", fn := fun _ => fun
  | [d1, d2] => { results := [.lit (.bool true)], args := [d1, d2] }
  | _ => none }
def edgeCoversRow : OpenClaim := { program := "ytmcemnhhmlnfcaa", sum := "debba75ef0579685665b19fce4c981b5e13a70ef6f8dacb35acdf5918dfb3f83", func := "frustum/frustumlaw34.EdgeCovers", spec := "edgeCovers", apart := false }
def EdgeCoversSaid : Prop := edgeCoversRow.holds Try.pinned (OpenSpec.ofChange edgeCoversSpec)

/-- ITS FALSE NEIGHBOUR: 'it returns false'. Refute it at one input. -/
def edgeCoversWrong : ChangeSpec := { name := "edgeCovers", fn := fun _ => fun
  | [d1, d2] => { results := [.lit (.bool false)], args := [d1, d2] }
  | _ => none }
def EdgeCoversWrongFalsely : Prop := edgeCoversRow.holds Try.pinned (OpenSpec.ofChange edgeCoversWrong)

/-- 'frustumlaw34.EdgeRotation': WHATEVER THE INPUT: true; the input reads as it did. -/
def edgeRotationSpec : ChangeSpec := { name := "edgeRotation", fn := fun _ => fun
  | [d1, d2] => { results := [.lit (.bool true)], args := [d1, d2] }
  | _ => none }
def edgeRotationRow : OpenClaim := { program := "ytmcemnhhmlnfcaa", sum := "debba75ef0579685665b19fce4c981b5e13a70ef6f8dacb35acdf5918dfb3f83", func := "frustum/frustumlaw34.EdgeRotation", spec := "edgeRotation", apart := false }
def EdgeRotationSaid : Prop := edgeRotationRow.holds Try.pinned (OpenSpec.ofChange edgeRotationSpec)

/-- ITS FALSE NEIGHBOUR: 'it returns false'. Refute it at one input. -/
def edgeRotationWrong : ChangeSpec := { name := "edgeRotation", fn := fun _ => fun
  | [d1, d2] => { results := [.lit (.bool false)], args := [d1, d2] }
  | _ => none }
def EdgeRotationWrongFalsely : Prop := edgeRotationRow.holds Try.pinned (OpenSpec.ofChange edgeRotationWrong)

/- THE SECOND FORM. 'bulk': how many values and letters a reading holds, each counted each time it is reached (what is shared counts as often as it is met; a slice's spare places count too). A statement '..UptoSaid' is the law's where the arguments, and the package variables that the reading takes, are together of bulk at most 1048576: NARROWER than '..Said'. Prove '..Said' where nothing that the law and all that it calls make is longer than what came in: it says more and counts as full. Else prove '..UptoSaid'. A law counts once. -/
mutual
def uptoBulk {H : Type} : DataW H → Nat
  | .lit (.string bytes) => bytes.length + 1
  | .lit _ => 1
  | .nil => 1
  | .ptr d => uptoBulk d + 1
  | .slice elems spare => uptoBulkAll elems + uptoBulkAll spare + 1
  | .agg parts => uptoBulkAll parts + 1
  | .iface _ d => uptoBulk d + 1
  | .map entries => uptoBulkEntries entries + 1
  | .held _ => 1
def uptoBulkAll {H : Type} : List (DataW H) → Nat
  | [] => 0
  | d :: r => uptoBulk d + uptoBulkAll r
def uptoBulkEntries {H : Type} : List (Lit × DataW H) → Nat
  | [] => 0
  | x :: r => uptoBulkEntry x + uptoBulkEntries r
def uptoBulkEntry {H : Type} : Lit × DataW H → Nat
  | (.string bytes, d) => bytes.length + uptoBulk d + 1
  | (_, d) => uptoBulk d + 1
 end
def uptoSmall : (H : Type) → List (DataW H) → Bool := fun _ ds => decide (uptoBulkAll ds ≤ 1048576)
def OpenSpec.upto (s : _root_.Go.ChangeSpec) : _root_.Go.OpenSpec := { _root_.Go.OpenSpec.ofChange s with cond := some uptoSmall }

/-- 'frustumlaw34.EdgeShared', WHERE WHAT IT READS IS OF BULK AT MOST 1048576: true; the input reads as it did. -/
def edgeSharedUptoRow : OpenClaim := { program := "ytmcemnhhmlnfcaa", sum := "debba75ef0579685665b19fce4c981b5e13a70ef6f8dacb35acdf5918dfb3f83", func := "frustum/frustumlaw34.EdgeShared", spec := "edgeShared", apart := false, narrowed := true }
def EdgeSharedUptoSaid : Prop := edgeSharedUptoRow.holds Try.pinned (OpenSpec.upto edgeSharedSpec)

/-- 'frustumlaw34.EdgeFunctions', WHERE WHAT IT READS IS OF BULK AT MOST 1048576: true; the input reads as it did. -/
def edgeFunctionsUptoRow : OpenClaim := { program := "ytmcemnhhmlnfcaa", sum := "debba75ef0579685665b19fce4c981b5e13a70ef6f8dacb35acdf5918dfb3f83", func := "frustum/frustumlaw34.EdgeFunctions", spec := "edgeFunctions", apart := false, narrowed := true }
def EdgeFunctionsUptoSaid : Prop := edgeFunctionsUptoRow.holds Try.pinned (OpenSpec.upto edgeFunctionsSpec)

/-- 'frustumlaw34.EdgeWeightsSum', WHERE WHAT IT READS IS OF BULK AT MOST 1048576: true; the input reads as it did. -/
def edgeWeightsSumUptoRow : OpenClaim := { program := "ytmcemnhhmlnfcaa", sum := "debba75ef0579685665b19fce4c981b5e13a70ef6f8dacb35acdf5918dfb3f83", func := "frustum/frustumlaw34.EdgeWeightsSum", spec := "edgeWeightsSum", apart := false, narrowed := true }
def EdgeWeightsSumUptoSaid : Prop := edgeWeightsSumUptoRow.holds Try.pinned (OpenSpec.upto edgeWeightsSumSpec)

/-- 'frustumlaw34.EdgeDisjoint', WHERE WHAT IT READS IS OF BULK AT MOST 1048576: true; the input reads as it did. -/
def edgeDisjointUptoRow : OpenClaim := { program := "ytmcemnhhmlnfcaa", sum := "debba75ef0579685665b19fce4c981b5e13a70ef6f8dacb35acdf5918dfb3f83", func := "frustum/frustumlaw34.EdgeDisjoint", spec := "edgeDisjoint", apart := false, narrowed := true }
def EdgeDisjointUptoSaid : Prop := edgeDisjointUptoRow.holds Try.pinned (OpenSpec.upto edgeDisjointSpec)

/-- 'frustumlaw34.EdgeSplit', WHERE WHAT IT READS IS OF BULK AT MOST 1048576: true; the input reads as it did. -/
def edgeSplitUptoRow : OpenClaim := { program := "ytmcemnhhmlnfcaa", sum := "debba75ef0579685665b19fce4c981b5e13a70ef6f8dacb35acdf5918dfb3f83", func := "frustum/frustumlaw34.EdgeSplit", spec := "edgeSplit", apart := false, narrowed := true }
def EdgeSplitUptoSaid : Prop := edgeSplitUptoRow.holds Try.pinned (OpenSpec.upto edgeSplitSpec)

/-- 'frustumlaw34.EdgeCovers', WHERE WHAT IT READS IS OF BULK AT MOST 1048576: true; the input reads as it did. -/
def edgeCoversUptoRow : OpenClaim := { program := "ytmcemnhhmlnfcaa", sum := "debba75ef0579685665b19fce4c981b5e13a70ef6f8dacb35acdf5918dfb3f83", func := "frustum/frustumlaw34.EdgeCovers", spec := "edgeCovers", apart := false, narrowed := true }
def EdgeCoversUptoSaid : Prop := edgeCoversUptoRow.holds Try.pinned (OpenSpec.upto edgeCoversSpec)

/-- 'frustumlaw34.EdgeRotation', WHERE WHAT IT READS IS OF BULK AT MOST 1048576: true; the input reads as it did. -/
def edgeRotationUptoRow : OpenClaim := { program := "ytmcemnhhmlnfcaa", sum := "debba75ef0579685665b19fce4c981b5e13a70ef6f8dacb35acdf5918dfb3f83", func := "frustum/frustumlaw34.EdgeRotation", spec := "edgeRotation", apart := false, narrowed := true }
def EdgeRotationUptoSaid : Prop := edgeRotationUptoRow.holds Try.pinned (OpenSpec.upto edgeRotationSpec)

end Rows
end Go.Proofs.Ytmcemnhhmlnfcaa
