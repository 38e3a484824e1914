/-
  No cell of these rows narrows 'for every input' (looked for: loops, veiled, ifaces, maps, wideKeys, modest, calm, conditions, laid).
  DERIVED. THE GIVEN ROWS OF THIS SEAT. 6 by the template 'for every input the law returns true; each argument reads behind the call as it read before'; 0 by the template 'total and deterministic' (their statements: YtboffbajmlkhiaaTotals.lean).
  GIVEN WITH THE SEED: the statements are not yours to turn. If you find one false, say at which input.
  Laid BY PROGRAM, IN A SANDBOX (cutbox-rows.mjs): the forced cells as the released guide's own fill.sh prints them over the translation 0a9e6a1dfab262b2… (all of the seat's roots in one cut). By AI agents, Wed Nov 11 2026. No macro, syntax, notation, axiom, sorry.
-/
import Derived.Test.YtboffbajmlkhiaaChecked
import GoSem.Claim
import GoSem.ClaimJoined
import GoSem.ClaimMapViews
import Derived.JoinedTies
import Derived.KernelRfl
namespace Go.Proofs.Ytboffbajmlkhiaa
/- THE CELL 'sum', in the pinned program and in every row, IS THE sha256 OF THE DUMP (.gsa) THAT YtboffbajmlkhiaaProg.lean LOADS. Nothing in Lean hashes anything: it is a label: what it is worth is what the hold of that sum in a sandbox is worth. -/
noncomputable def Try.pinned : Pinned := { name := "ytboffbajmlkhiaa", sum := "0a9e6a1dfab262b23ccdbda44a50fad626eb830cabf93c26356f2deb6aeb583f", checked := Try.checked }
namespace Rows
def none {H : Type} : Left H := { results := [], args := [] }

/-- 'frustumlaw33.CullArea': WHATEVER THE INPUT: true; the input reads as it did. -/
def cullAreaSpec : ChangeSpec := { name := "cullArea", fn := fun _ => fun
  | [d] => { results := [.lit (.bool true)], args := [d] }
  | _ => none }
def cullAreaRow : OpenClaim := { program := "ytboffbajmlkhiaa", sum := "0a9e6a1dfab262b23ccdbda44a50fad626eb830cabf93c26356f2deb6aeb583f", func := "frustum/frustumlaw33.CullArea", spec := "cullArea", apart := false }
def CullAreaSaid : Prop := cullAreaRow.holds Try.pinned (OpenSpec.ofChange cullAreaSpec)

/-- ITS FALSE NEIGHBOUR: 'it returns false'. Refute it at one input. -/
def cullAreaWrong : ChangeSpec := { name := "cullArea", fn := fun _ => fun
  | [d] => { results := [.lit (.bool false)], args := [d] }
  | _ => none }
def CullAreaWrongFalsely : Prop := cullAreaRow.holds Try.pinned (OpenSpec.ofChange cullAreaWrong)

/-- 'frustumlaw33.CullExchange': WHATEVER THE INPUT: true; the input reads as it did. -/
def cullExchangeSpec : ChangeSpec := { name := "cullExchange", fn := fun _ => fun
  | [d] => { results := [.lit (.bool true)], args := [d] }
  | _ => none }
def cullExchangeRow : OpenClaim := { program := "ytboffbajmlkhiaa", sum := "0a9e6a1dfab262b23ccdbda44a50fad626eb830cabf93c26356f2deb6aeb583f", func := "frustum/frustumlaw33.CullExchange", spec := "cullExchange", apart := false }
def CullExchangeSaid : Prop := cullExchangeRow.holds Try.pinned (OpenSpec.ofChange cullExchangeSpec)

/-- ITS FALSE NEIGHBOUR: 'it returns false'. Refute it at one input. -/
def cullExchangeWrong : ChangeSpec := { name := "cullExchange", fn := fun _ => fun
  | [d] => { results := [.lit (.bool false)], args := [d] }
  | _ => none }
def CullExchangeWrongFalsely : Prop := cullExchangeRow.holds Try.pinned (OpenSpec.ofChange cullExchangeWrong)

/-- 'frustumlaw33.CullKeep': WHATEVER THE INPUT: true; the input reads as it did. -/
def cullKeepSpec : ChangeSpec := { name := "cullKeep", fn := fun _ => fun
  | [d1, d2, d3] => { results := [.lit (.bool true)], args := [d1, d2, d3] }
  | _ => none }
def cullKeepRow : OpenClaim := { program := "ytboffbajmlkhiaa", sum := "0a9e6a1dfab262b23ccdbda44a50fad626eb830cabf93c26356f2deb6aeb583f", func := "frustum/frustumlaw33.CullKeep", spec := "cullKeep", apart := false }
def CullKeepSaid : Prop := cullKeepRow.holds Try.pinned (OpenSpec.ofChange cullKeepSpec)

/-- ITS FALSE NEIGHBOUR: 'it returns false'. Refute it at one input. -/
def cullKeepWrong : ChangeSpec := { name := "cullKeep", fn := fun _ => fun
  | [d1, d2, d3] => { results := [.lit (.bool false)], args := [d1, d2, d3] }
  | _ => none }
def CullKeepWrongFalsely : Prop := cullKeepRow.holds Try.pinned (OpenSpec.ofChange cullKeepWrong)

/-- 'frustumlaw33.CullModes': WHATEVER THE INPUT: true; the input reads as it did. -/
def cullModesSpec : ChangeSpec := { name := "cullModes", fn := fun _ => fun
  | [d1, d2] => { results := [.lit (.bool true)], args := [d1, d2] }
  | _ => none }
def cullModesRow : OpenClaim := { program := "ytboffbajmlkhiaa", sum := "0a9e6a1dfab262b23ccdbda44a50fad626eb830cabf93c26356f2deb6aeb583f", func := "frustum/frustumlaw33.CullModes", spec := "cullModes", apart := false }
def CullModesSaid : Prop := cullModesRow.holds Try.pinned (OpenSpec.ofChange cullModesSpec)

/-- ITS FALSE NEIGHBOUR: 'it returns false'. Refute it at one input. -/
def cullModesWrong : ChangeSpec := { name := "cullModes", fn := fun _ => fun
  | [d1, d2] => { results := [.lit (.bool false)], args := [d1, d2] }
  | _ => none }
def CullModesWrongFalsely : Prop := cullModesRow.holds Try.pinned (OpenSpec.ofChange cullModesWrong)

/-- 'frustumlaw33.CullOrientation': WHATEVER THE INPUT: true; the input reads as it did. -/
def cullOrientationSpec : ChangeSpec := { name := "cullOrientation", fn := fun _ => fun
  | [d] => { results := [.lit (.bool true)], args := [d] }
  | _ => none }
def cullOrientationRow : OpenClaim := { program := "ytboffbajmlkhiaa", sum := "0a9e6a1dfab262b23ccdbda44a50fad626eb830cabf93c26356f2deb6aeb583f", func := "frustum/frustumlaw33.CullOrientation", spec := "cullOrientation", apart := false }
def CullOrientationSaid : Prop := cullOrientationRow.holds Try.pinned (OpenSpec.ofChange cullOrientationSpec)

/-- ITS FALSE NEIGHBOUR: 'it returns false'. Refute it at one input. -/
def cullOrientationWrong : ChangeSpec := { name := "cullOrientation", fn := fun _ => fun
  | [d] => { results := [.lit (.bool false)], args := [d] }
  | _ => none }
def CullOrientationWrongFalsely : Prop := cullOrientationRow.holds Try.pinned (OpenSpec.ofChange cullOrientationWrong)

/-- 'frustumlaw33.CullPositive': WHATEVER THE INPUT: true; the input reads as it did. -/
def cullPositiveSpec : ChangeSpec := { name := "cullPositive", fn := fun _ => fun
  | [d] => { results := [.lit (.bool true)], args := [d] }
  | _ => none }
def cullPositiveRow : OpenClaim := { program := "ytboffbajmlkhiaa", sum := "0a9e6a1dfab262b23ccdbda44a50fad626eb830cabf93c26356f2deb6aeb583f", func := "frustum/frustumlaw33.CullPositive", spec := "cullPositive", apart := false }
def CullPositiveSaid : Prop := cullPositiveRow.holds Try.pinned (OpenSpec.ofChange cullPositiveSpec)

/-- ITS FALSE NEIGHBOUR: 'it returns false'. Refute it at one input. -/
def cullPositiveWrong : ChangeSpec := { name := "cullPositive", fn := fun _ => fun
  | [d] => { results := [.lit (.bool false)], args := [d] }
  | _ => none }
def CullPositiveWrongFalsely : Prop := cullPositiveRow.holds Try.pinned (OpenSpec.ofChange cullPositiveWrong)

/- THE SECOND FORM. 'bulk': how many values and letters a reading holds, each counted each time it is reached (what is shared counts as often as it is met; a slice's spare places count too). A statement '..UptoSaid' is the law's where the arguments, and the package variables that the reading takes, are together of bulk at most 1048576: NARROWER than '..Said'. Prove '..Said' where nothing that the law and all that it calls make is longer than what came in: it says more and counts as full. Else prove '..UptoSaid'. A law counts once. -/
mutual
def uptoBulk {H : Type} : DataW H → Nat
  | .lit (.string bytes) => bytes.length + 1
  | .lit _ => 1
  | .nil => 1
  | .ptr d => uptoBulk d + 1
  | .slice elems spare => uptoBulkAll elems + uptoBulkAll spare + 1
  | .agg parts => uptoBulkAll parts + 1
  | .iface _ d => uptoBulk d + 1
  | .map entries => uptoBulkEntries entries + 1
  | .held _ => 1
def uptoBulkAll {H : Type} : List (DataW H) → Nat
  | [] => 0
  | d :: r => uptoBulk d + uptoBulkAll r
def uptoBulkEntries {H : Type} : List (Lit × DataW H) → Nat
  | [] => 0
  | x :: r => uptoBulkEntry x + uptoBulkEntries r
def uptoBulkEntry {H : Type} : Lit × DataW H → Nat
  | (.string bytes, d) => bytes.length + uptoBulk d + 1
  | (_, d) => uptoBulk d + 1
 end
def uptoSmall : (H : Type) → List (DataW H) → Bool := fun _ ds => decide (uptoBulkAll ds ≤ 1048576)
def OpenSpec.upto (s : _root_.Go.ChangeSpec) : _root_.Go.OpenSpec := { _root_.Go.OpenSpec.ofChange s with cond := some uptoSmall }

/-- 'frustumlaw33.CullArea', WHERE WHAT IT READS IS OF BULK AT MOST 1048576: true; the input reads as it did. -/
def cullAreaUptoRow : OpenClaim := { program := "ytboffbajmlkhiaa", sum := "0a9e6a1dfab262b23ccdbda44a50fad626eb830cabf93c26356f2deb6aeb583f", func := "frustum/frustumlaw33.CullArea", spec := "cullArea", apart := false, narrowed := true }
def CullAreaUptoSaid : Prop := cullAreaUptoRow.holds Try.pinned (OpenSpec.upto cullAreaSpec)

/-- 'frustumlaw33.CullExchange', WHERE WHAT IT READS IS OF BULK AT MOST 1048576: true; the input reads as it did. -/
def cullExchangeUptoRow : OpenClaim := { program := "ytboffbajmlkhiaa", sum := "0a9e6a1dfab262b23ccdbda44a50fad626eb830cabf93c26356f2deb6aeb583f", func := "frustum/frustumlaw33.CullExchange", spec := "cullExchange", apart := false, narrowed := true }
def CullExchangeUptoSaid : Prop := cullExchangeUptoRow.holds Try.pinned (OpenSpec.upto cullExchangeSpec)

/-- 'frustumlaw33.CullKeep', WHERE WHAT IT READS IS OF BULK AT MOST 1048576: true; the input reads as it did. -/
def cullKeepUptoRow : OpenClaim := { program := "ytboffbajmlkhiaa", sum := "0a9e6a1dfab262b23ccdbda44a50fad626eb830cabf93c26356f2deb6aeb583f", func := "frustum/frustumlaw33.CullKeep", spec := "cullKeep", apart := false, narrowed := true }
def CullKeepUptoSaid : Prop := cullKeepUptoRow.holds Try.pinned (OpenSpec.upto cullKeepSpec)

/-- 'frustumlaw33.CullModes', WHERE WHAT IT READS IS OF BULK AT MOST 1048576: true; the input reads as it did. -/
def cullModesUptoRow : OpenClaim := { program := "ytboffbajmlkhiaa", sum := "0a9e6a1dfab262b23ccdbda44a50fad626eb830cabf93c26356f2deb6aeb583f", func := "frustum/frustumlaw33.CullModes", spec := "cullModes", apart := false, narrowed := true }
def CullModesUptoSaid : Prop := cullModesUptoRow.holds Try.pinned (OpenSpec.upto cullModesSpec)

/-- 'frustumlaw33.CullOrientation', WHERE WHAT IT READS IS OF BULK AT MOST 1048576: true; the input reads as it did. -/
def cullOrientationUptoRow : OpenClaim := { program := "ytboffbajmlkhiaa", sum := "0a9e6a1dfab262b23ccdbda44a50fad626eb830cabf93c26356f2deb6aeb583f", func := "frustum/frustumlaw33.CullOrientation", spec := "cullOrientation", apart := false, narrowed := true }
def CullOrientationUptoSaid : Prop := cullOrientationUptoRow.holds Try.pinned (OpenSpec.upto cullOrientationSpec)

/-- 'frustumlaw33.CullPositive', WHERE WHAT IT READS IS OF BULK AT MOST 1048576: true; the input reads as it did. -/
def cullPositiveUptoRow : OpenClaim := { program := "ytboffbajmlkhiaa", sum := "0a9e6a1dfab262b23ccdbda44a50fad626eb830cabf93c26356f2deb6aeb583f", func := "frustum/frustumlaw33.CullPositive", spec := "cullPositive", apart := false, narrowed := true }
def CullPositiveUptoSaid : Prop := cullPositiveUptoRow.holds Try.pinned (OpenSpec.upto cullPositiveSpec)

end Rows
end Go.Proofs.Ytboffbajmlkhiaa
