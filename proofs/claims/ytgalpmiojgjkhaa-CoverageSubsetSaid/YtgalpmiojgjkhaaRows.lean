/-
  No cell of these rows narrows 'for every input' (looked for: loops, veiled, ifaces, maps, wideKeys, modest, calm, conditions, laid).
  DERIVED. THE GIVEN ROWS OF THIS SEAT. 6 by the template 'for every input the law returns true; each argument reads behind the call as it read before'; 0 by the template 'total and deterministic' (their statements: YtgalpmiojgjkhaaTotals.lean).
  GIVEN WITH THE SEED: the statements are not yours to turn. If you find one false, say at which input.
  Laid BY PROGRAM, IN A SANDBOX (cutbox-rows.mjs): the forced cells as the released guide's own fill.sh prints them over the translation e5ef5eb406d08559… (all of the seat's roots in one cut). By AI agents, Wed Nov 11 2026. No macro, syntax, notation, axiom, sorry.
-/
import Derived.Test.YtgalpmiojgjkhaaChecked
import GoSem.Claim
import GoSem.ClaimJoined
import GoSem.ClaimMapViews
import Derived.JoinedTies
import Derived.KernelRfl
namespace Go.Proofs.Ytgalpmiojgjkhaa
/- THE CELL 'sum', in the pinned program and in every row, IS THE sha256 OF THE DUMP (.gsa) THAT YtgalpmiojgjkhaaProg.lean LOADS. Nothing in Lean hashes anything: it is a label: what it is worth is what the hold of that sum in a sandbox is worth. -/
noncomputable def Try.pinned : Pinned := { name := "ytgalpmiojgjkhaa", sum := "e5ef5eb406d08559f07743c63b99f53ea1131611ed7f909f79df5a92ff9fbe2d", checked := Try.checked }
namespace Rows
def none {H : Type} : Left H := { results := [], args := [] }

/-- 'frustumlaw35.CoverageMasks': WHATEVER THE INPUT: true; the input reads as it did. -/
def coverageMasksSpec : ChangeSpec := { name := "coverageMasks", fn := fun _ => fun
  | [d1, d2, d3, d4] => { results := [.lit (.bool true)], args := [d1, d2, d3, d4] }
  | _ => none }
def coverageMasksRow : OpenClaim := { program := "ytgalpmiojgjkhaa", sum := "e5ef5eb406d08559f07743c63b99f53ea1131611ed7f909f79df5a92ff9fbe2d", func := "frustum/frustumlaw35.CoverageMasks", spec := "coverageMasks", apart := false }
def CoverageMasksSaid : Prop := coverageMasksRow.holds Try.pinned (OpenSpec.ofChange coverageMasksSpec)

/-- ITS FALSE NEIGHBOUR: 'it returns false'. Refute it at one input. -/
def coverageMasksWrong : ChangeSpec := { name := "coverageMasks", fn := fun _ => fun
  | [d1, d2, d3, d4] => { results := [.lit (.bool false)], args := [d1, d2, d3, d4] }
  | _ => none }
def CoverageMasksWrongFalsely : Prop := coverageMasksRow.holds Try.pinned (OpenSpec.ofChange coverageMasksWrong)

/-- 'frustumlaw35.CoverageOnce': WHATEVER THE INPUT: true; the input reads as it did. -/
def coverageOnceSpec : ChangeSpec := { name := "coverageOnce", fn := fun _ => fun
  | [d1, d2, d3, d4, d5] => { results := [.lit (.bool true)], args := [d1, d2, d3, d4, d5] }
  | _ => none }
def coverageOnceRow : OpenClaim := { program := "ytgalpmiojgjkhaa", sum := "e5ef5eb406d08559f07743c63b99f53ea1131611ed7f909f79df5a92ff9fbe2d", func := "frustum/frustumlaw35.CoverageOnce", spec := "coverageOnce", apart := false }
def CoverageOnceSaid : Prop := coverageOnceRow.holds Try.pinned (OpenSpec.ofChange coverageOnceSpec)

/-- ITS FALSE NEIGHBOUR: 'it returns false'. Refute it at one input. -/
def coverageOnceWrong : ChangeSpec := { name := "coverageOnce", fn := fun _ => fun
  | [d1, d2, d3, d4, d5] => { results := [.lit (.bool false)], args := [d1, d2, d3, d4, d5] }
  | _ => none }
def CoverageOnceWrongFalsely : Prop := coverageOnceRow.holds Try.pinned (OpenSpec.ofChange coverageOnceWrong)

/-- 'frustumlaw35.CoverageRotates': WHATEVER THE INPUT: true; the input reads as it did. -/
def coverageRotatesSpec : ChangeSpec := { name := "coverageRotates", fn := fun _ => fun
  | [d1, d2, d3, d4] => { results := [.lit (.bool true)], args := [d1, d2, d3, d4] }
  | _ => none }
def coverageRotatesRow : OpenClaim := { program := "ytgalpmiojgjkhaa", sum := "e5ef5eb406d08559f07743c63b99f53ea1131611ed7f909f79df5a92ff9fbe2d", func := "frustum/frustumlaw35.CoverageRotates", spec := "coverageRotates", apart := false }
def CoverageRotatesSaid : Prop := coverageRotatesRow.holds Try.pinned (OpenSpec.ofChange coverageRotatesSpec)

/-- ITS FALSE NEIGHBOUR: 'it returns false'. Refute it at one input. -/
def coverageRotatesWrong : ChangeSpec := { name := "coverageRotates", fn := fun _ => fun
  | [d1, d2, d3, d4] => { results := [.lit (.bool false)], args := [d1, d2, d3, d4] }
  | _ => none }
def CoverageRotatesWrongFalsely : Prop := coverageRotatesRow.holds Try.pinned (OpenSpec.ofChange coverageRotatesWrong)

/-- 'frustumlaw35.CoveragePositions': WHATEVER THE INPUT: true; the input reads as it did. -/
def coveragePositionsSpec : ChangeSpec := { name := "coveragePositions", fn := fun _ => fun
  | [d1, d2, d3, d4] => { results := [.lit (.bool true)], args := [d1, d2, d3, d4] }
  | _ => none }
def coveragePositionsRow : OpenClaim := { program := "ytgalpmiojgjkhaa", sum := "e5ef5eb406d08559f07743c63b99f53ea1131611ed7f909f79df5a92ff9fbe2d", func := "frustum/frustumlaw35.CoveragePositions", spec := "coveragePositions", apart := false }
def CoveragePositionsSaid : Prop := coveragePositionsRow.holds Try.pinned (OpenSpec.ofChange coveragePositionsSpec)

/-- ITS FALSE NEIGHBOUR: 'it returns false'. Refute it at one input. -/
def coveragePositionsWrong : ChangeSpec := { name := "coveragePositions", fn := fun _ => fun
  | [d1, d2, d3, d4] => { results := [.lit (.bool false)], args := [d1, d2, d3, d4] }
  | _ => none }
def CoveragePositionsWrongFalsely : Prop := coveragePositionsRow.holds Try.pinned (OpenSpec.ofChange coveragePositionsWrong)

/-- 'frustumlaw35.CoveragePixels': WHATEVER THE INPUT: true; the input reads as it did. -/
def coveragePixelsSpec : ChangeSpec := { name := "coveragePixels", fn := fun _ => fun
  | [d1, d2, d3, d4, d5, d6] => { results := [.lit (.bool true)], args := [d1, d2, d3, d4, d5, d6] }
  | _ => none }
def coveragePixelsRow : OpenClaim := { program := "ytgalpmiojgjkhaa", sum := "e5ef5eb406d08559f07743c63b99f53ea1131611ed7f909f79df5a92ff9fbe2d", func := "frustum/frustumlaw35.CoveragePixels", spec := "coveragePixels", apart := false }
def CoveragePixelsSaid : Prop := coveragePixelsRow.holds Try.pinned (OpenSpec.ofChange coveragePixelsSpec)

/-- ITS FALSE NEIGHBOUR: 'it returns false'. Refute it at one input. -/
def coveragePixelsWrong : ChangeSpec := { name := "coveragePixels", fn := fun _ => fun
  | [d1, d2, d3, d4, d5, d6] => { results := [.lit (.bool false)], args := [d1, d2, d3, d4, d5, d6] }
  | _ => none }
def CoveragePixelsWrongFalsely : Prop := coveragePixelsRow.holds Try.pinned (OpenSpec.ofChange coveragePixelsWrong)

/-- 'frustumlaw35.CoverageSubset': WHATEVER THE INPUT: true; the input reads as it did. -/
def coverageSubsetSpec : ChangeSpec := { name := "coverageSubset", fn := fun _ => fun
  | [d1, d2, d3, d4, d5, d6] => { results := [.lit (.bool true)], args := [d1, d2, d3, d4, d5, d6] }
  | _ => none }
def coverageSubsetRow : OpenClaim := { program := "ytgalpmiojgjkhaa", sum := "e5ef5eb406d08559f07743c63b99f53ea1131611ed7f909f79df5a92ff9fbe2d", func := "frustum/frustumlaw35.CoverageSubset", spec := "coverageSubset", apart := false }
def CoverageSubsetSaid : Prop := coverageSubsetRow.holds Try.pinned (OpenSpec.ofChange coverageSubsetSpec)

/-- ITS FALSE NEIGHBOUR: 'it returns false'. Refute it at one input. -/
def coverageSubsetWrong : ChangeSpec := { name := "coverageSubset", fn := fun _ => fun
  | [d1, d2, d3, d4, d5, d6] => { results := [.lit (.bool false)], args := [d1, d2, d3, d4, d5, d6] }
  | _ => none }
def CoverageSubsetWrongFalsely : Prop := coverageSubsetRow.holds Try.pinned (OpenSpec.ofChange coverageSubsetWrong)

/- THE SECOND FORM. 'bulk': how many values and letters a reading holds, each counted each time it is reached (what is shared counts as often as it is met; a slice's spare places count too). A statement '..UptoSaid' is the law's where the arguments, and the package variables that the reading takes, are together of bulk at most 1048576: NARROWER than '..Said'. Prove '..Said' where nothing that the law and all that it calls make is longer than what came in: it says more and counts as full. Else prove '..UptoSaid'. A law counts once. -/
mutual
def uptoBulk {H : Type} : DataW H → Nat
  | .lit (.string bytes) => bytes.length + 1
  | .lit _ => 1
  | .nil => 1
  | .ptr d => uptoBulk d + 1
  | .slice elems spare => uptoBulkAll elems + uptoBulkAll spare + 1
  | .agg parts => uptoBulkAll parts + 1
  | .iface _ d => uptoBulk d + 1
  | .map entries => uptoBulkEntries entries + 1
  | .held _ => 1
def uptoBulkAll {H : Type} : List (DataW H) → Nat
  | [] => 0
  | d :: r => uptoBulk d + uptoBulkAll r
def uptoBulkEntries {H : Type} : List (Lit × DataW H) → Nat
  | [] => 0
  | x :: r => uptoBulkEntry x + uptoBulkEntries r
def uptoBulkEntry {H : Type} : Lit × DataW H → Nat
  | (.string bytes, d) => bytes.length + uptoBulk d + 1
  | (_, d) => uptoBulk d + 1
 end
def uptoSmall : (H : Type) → List (DataW H) → Bool := fun _ ds => decide (uptoBulkAll ds ≤ 1048576)
def OpenSpec.upto (s : _root_.Go.ChangeSpec) : _root_.Go.OpenSpec := { _root_.Go.OpenSpec.ofChange s with cond := some uptoSmall }

/-- 'frustumlaw35.CoverageMasks', WHERE WHAT IT READS IS OF BULK AT MOST 1048576: true; the input reads as it did. -/
def coverageMasksUptoRow : OpenClaim := { program := "ytgalpmiojgjkhaa", sum := "e5ef5eb406d08559f07743c63b99f53ea1131611ed7f909f79df5a92ff9fbe2d", func := "frustum/frustumlaw35.CoverageMasks", spec := "coverageMasks", apart := false, narrowed := true }
def CoverageMasksUptoSaid : Prop := coverageMasksUptoRow.holds Try.pinned (OpenSpec.upto coverageMasksSpec)

/-- 'frustumlaw35.CoverageOnce', WHERE WHAT IT READS IS OF BULK AT MOST 1048576: true; the input reads as it did. -/
def coverageOnceUptoRow : OpenClaim := { program := "ytgalpmiojgjkhaa", sum := "e5ef5eb406d08559f07743c63b99f53ea1131611ed7f909f79df5a92ff9fbe2d", func := "frustum/frustumlaw35.CoverageOnce", spec := "coverageOnce", apart := false, narrowed := true }
def CoverageOnceUptoSaid : Prop := coverageOnceUptoRow.holds Try.pinned (OpenSpec.upto coverageOnceSpec)

/-- 'frustumlaw35.CoverageRotates', WHERE WHAT IT READS IS OF BULK AT MOST 1048576: true; the input reads as it did. -/
def coverageRotatesUptoRow : OpenClaim := { program := "ytgalpmiojgjkhaa", sum := "e5ef5eb406d08559f07743c63b99f53ea1131611ed7f909f79df5a92ff9fbe2d", func := "frustum/frustumlaw35.CoverageRotates", spec := "coverageRotates", apart := false, narrowed := true }
def CoverageRotatesUptoSaid : Prop := coverageRotatesUptoRow.holds Try.pinned (OpenSpec.upto coverageRotatesSpec)

/-- 'frustumlaw35.CoveragePositions', WHERE WHAT IT READS IS OF BULK AT MOST 1048576: true; the input reads as it did. -/
def coveragePositionsUptoRow : OpenClaim := { program := "ytgalpmiojgjkhaa", sum := "e5ef5eb406d08559f07743c63b99f53ea1131611ed7f909f79df5a92ff9fbe2d", func := "frustum/frustumlaw35.CoveragePositions", spec := "coveragePositions", apart := false, narrowed := true }
def CoveragePositionsUptoSaid : Prop := coveragePositionsUptoRow.holds Try.pinned (OpenSpec.upto coveragePositionsSpec)

/-- 'frustumlaw35.CoveragePixels', WHERE WHAT IT READS IS OF BULK AT MOST 1048576: true; the input reads as it did. -/
def coveragePixelsUptoRow : OpenClaim := { program := "ytgalpmiojgjkhaa", sum := "e5ef5eb406d08559f07743c63b99f53ea1131611ed7f909f79df5a92ff9fbe2d", func := "frustum/frustumlaw35.CoveragePixels", spec := "coveragePixels", apart := false, narrowed := true }
def CoveragePixelsUptoSaid : Prop := coveragePixelsUptoRow.holds Try.pinned (OpenSpec.upto coveragePixelsSpec)

/-- 'frustumlaw35.CoverageSubset', WHERE WHAT IT READS IS OF BULK AT MOST 1048576: true; the input reads as it did. -/
def coverageSubsetUptoRow : OpenClaim := { program := "ytgalpmiojgjkhaa", sum := "e5ef5eb406d08559f07743c63b99f53ea1131611ed7f909f79df5a92ff9fbe2d", func := "frustum/frustumlaw35.CoverageSubset", spec := "coverageSubset", apart := false, narrowed := true }
def CoverageSubsetUptoSaid : Prop := coverageSubsetUptoRow.holds Try.pinned (OpenSpec.upto coverageSubsetSpec)

end Rows
end Go.Proofs.Ytgalpmiojgjkhaa
