/-
  No cell of these rows narrows 'for every input' (looked for: loops, veiled, ifaces, maps, wideKeys, modest, calm, conditions, laid).
  DERIVED. THE GIVEN ROWS OF THIS SEAT. 7 by the template 'for every input the law returns true; each argument reads behind the call as it read before'; 0 by the template 'total and deterministic' (their statements: YthbhhodlggkegaaTotals.lean).
  GIVEN WITH THE SEED: the statements are not yours to turn. If you find one false, say at which input.
  Laid BY PROGRAM, IN A SANDBOX (cutbox-rows.mjs): the forced cells as the released guide's own fill.sh prints them over the translation 70ba1df1720c6571… (all of the seat's roots in one cut). By AI agents, Wed Nov 11 2026. No macro, syntax, notation, axiom, sorry.
-/
import Derived.Test.YthbhhodlggkegaaChecked
import GoSem.Claim
import GoSem.ClaimJoined
import GoSem.ClaimMapViews
import Derived.JoinedTies
import Derived.KernelRfl
namespace Go.Proofs.Ythbhhodlggkegaa
/- THE CELL 'sum', in the pinned program and in every row, IS THE sha256 OF THE DUMP (.gsa) THAT YthbhhodlggkegaaProg.lean LOADS. Nothing in Lean hashes anything: it is a label: what it is worth is what the hold of that sum in a sandbox is worth. -/
noncomputable def Try.pinned : Pinned := { name := "ythbhhodlggkegaa", sum := "70ba1df1720c65715a762399201320938bef7b788fe4ea72beba5a0dd79e3f9e", checked := Try.checked }
namespace Rows
def none {H : Type} : Left H := { results := [], args := [] }

/-- 'frustumlaw07.PermuteShuffles': WHATEVER THE INPUT: true; the input reads as it did. -/
def permuteShufflesSpec : ChangeSpec := { name := "permuteShuffles", fn := fun _ => fun
  | [d1, d2] => { results := [.lit (.bool true)], args := [d1, d2] }
  | _ => none }
def permuteShufflesRow : OpenClaim := { program := "ythbhhodlggkegaa", sum := "70ba1df1720c65715a762399201320938bef7b788fe4ea72beba5a0dd79e3f9e", func := "frustum/frustumlaw07.PermuteShuffles", spec := "permuteShuffles", apart := false }
def PermuteShufflesSaid : Prop := permuteShufflesRow.holds Try.pinned (OpenSpec.ofChange permuteShufflesSpec)

/-- ITS FALSE NEIGHBOUR: 'it returns false'. Refute it at one input. -/
def permuteShufflesWrong : ChangeSpec := { name := "permuteShuffles", fn := fun _ => fun
  | [d1, d2] => { results := [.lit (.bool false)], args := [d1, d2] }
  | _ => none }
def PermuteShufflesWrongFalsely : Prop := permuteShufflesRow.holds Try.pinned (OpenSpec.ofChange permuteShufflesWrong)

/-- 'frustumlaw07.PermuteNextInjective': WHATEVER THE INPUT: true; the input reads as it did. -/
def permuteNextInjectiveSpec : ChangeSpec := { name := "permuteNextInjective", fn := fun _ => fun
  | [d1, d2] => { results := [.lit (.bool true)], args := [d1, d2] }
  | _ => none }
def permuteNextInjectiveRow : OpenClaim := { program := "ythbhhodlggkegaa", sum := "70ba1df1720c65715a762399201320938bef7b788fe4ea72beba5a0dd79e3f9e", func := "frustum/frustumlaw07.PermuteNextInjective", spec := "permuteNextInjective", apart := false }
def PermuteNextInjectiveSaid : Prop := permuteNextInjectiveRow.holds Try.pinned (OpenSpec.ofChange permuteNextInjectiveSpec)

/-- ITS FALSE NEIGHBOUR: 'it returns false'. Refute it at one input. -/
def permuteNextInjectiveWrong : ChangeSpec := { name := "permuteNextInjective", fn := fun _ => fun
  | [d1, d2] => { results := [.lit (.bool false)], args := [d1, d2] }
  | _ => none }
def PermuteNextInjectiveWrongFalsely : Prop := permuteNextInjectiveRow.holds Try.pinned (OpenSpec.ofChange permuteNextInjectiveWrong)

/-- 'frustumlaw07.PermuteBelowRange': WHATEVER THE INPUT: true; the input reads as it did. -/
def permuteBelowRangeSpec : ChangeSpec := { name := "permuteBelowRange", fn := fun _ => fun
  | [d1, d2] => { results := [.lit (.bool true)], args := [d1, d2] }
  | _ => none }
def permuteBelowRangeRow : OpenClaim := { program := "ythbhhodlggkegaa", sum := "70ba1df1720c65715a762399201320938bef7b788fe4ea72beba5a0dd79e3f9e", func := "frustum/frustumlaw07.PermuteBelowRange", spec := "permuteBelowRange", apart := false }
def PermuteBelowRangeSaid : Prop := permuteBelowRangeRow.holds Try.pinned (OpenSpec.ofChange permuteBelowRangeSpec)

/-- ITS FALSE NEIGHBOUR: 'it returns false'. Refute it at one input. -/
def permuteBelowRangeWrong : ChangeSpec := { name := "permuteBelowRange", fn := fun _ => fun
  | [d1, d2] => { results := [.lit (.bool false)], args := [d1, d2] }
  | _ => none }
def PermuteBelowRangeWrongFalsely : Prop := permuteBelowRangeRow.holds Try.pinned (OpenSpec.ofChange permuteBelowRangeWrong)

/-- 'frustumlaw07.PermuteInverts': WHATEVER THE INPUT: true; the input reads as it did. -/
def permuteInvertsSpec : ChangeSpec := { name := "permuteInverts", fn := fun _ => fun
  | [d] => { results := [.lit (.bool true)], args := [d] }
  | _ => none }
def permuteInvertsRow : OpenClaim := { program := "ythbhhodlggkegaa", sum := "70ba1df1720c65715a762399201320938bef7b788fe4ea72beba5a0dd79e3f9e", func := "frustum/frustumlaw07.PermuteInverts", spec := "permuteInverts", apart := false }
def PermuteInvertsSaid : Prop := permuteInvertsRow.holds Try.pinned (OpenSpec.ofChange permuteInvertsSpec)

/-- ITS FALSE NEIGHBOUR: 'it returns false'. Refute it at one input. -/
def permuteInvertsWrong : ChangeSpec := { name := "permuteInverts", fn := fun _ => fun
  | [d] => { results := [.lit (.bool false)], args := [d] }
  | _ => none }
def PermuteInvertsWrongFalsely : Prop := permuteInvertsRow.holds Try.pinned (OpenSpec.ofChange permuteInvertsWrong)

/-- 'frustumlaw07.PermutePermIsPermutation': WHATEVER THE INPUT: true; the input reads as it did. -/
def permutePermIsPermutationSpec : ChangeSpec := { name := "permutePermIsPermutation", fn := fun _ => fun
  | [d1, d2] => { results := [.lit (.bool true)], args := [d1, d2] }
  | _ => none }
def permutePermIsPermutationRow : OpenClaim := { program := "ythbhhodlggkegaa", sum := "70ba1df1720c65715a762399201320938bef7b788fe4ea72beba5a0dd79e3f9e", func := "frustum/frustumlaw07.PermutePermIsPermutation", spec := "permutePermIsPermutation", apart := false }
def PermutePermIsPermutationSaid : Prop := permutePermIsPermutationRow.holds Try.pinned (OpenSpec.ofChange permutePermIsPermutationSpec)

/-- ITS FALSE NEIGHBOUR: 'it returns false'. Refute it at one input. -/
def permutePermIsPermutationWrong : ChangeSpec := { name := "permutePermIsPermutation", fn := fun _ => fun
  | [d1, d2] => { results := [.lit (.bool false)], args := [d1, d2] }
  | _ => none }
def PermutePermIsPermutationWrongFalsely : Prop := permutePermIsPermutationRow.holds Try.pinned (OpenSpec.ofChange permutePermIsPermutationWrong)

/-- 'frustumlaw07.PermuteApplies': WHATEVER THE INPUT: true; the input reads as it did. -/
def permuteAppliesSpec : ChangeSpec := { name := "permuteApplies", fn := fun _ => fun
  | [d1, d2] => { results := [.lit (.bool true)], args := [d1, d2] }
  | _ => none }
def permuteAppliesRow : OpenClaim := { program := "ythbhhodlggkegaa", sum := "70ba1df1720c65715a762399201320938bef7b788fe4ea72beba5a0dd79e3f9e", func := "frustum/frustumlaw07.PermuteApplies", spec := "permuteApplies", apart := false }
def PermuteAppliesSaid : Prop := permuteAppliesRow.holds Try.pinned (OpenSpec.ofChange permuteAppliesSpec)

/-- ITS FALSE NEIGHBOUR: 'it returns false'. Refute it at one input. -/
def permuteAppliesWrong : ChangeSpec := { name := "permuteApplies", fn := fun _ => fun
  | [d1, d2] => { results := [.lit (.bool false)], args := [d1, d2] }
  | _ => none }
def PermuteAppliesWrongFalsely : Prop := permuteAppliesRow.holds Try.pinned (OpenSpec.ofChange permuteAppliesWrong)

/-- 'frustumlaw07.PermuteRoundTrip': WHATEVER THE INPUT: true; the input reads as it did. -/
def permuteRoundTripSpec : ChangeSpec := { name := "permuteRoundTrip", fn := fun _ => fun
  | [d1, d2] => { results := [.lit (.bool true)], args := [d1, d2] }
  | _ => none }
def permuteRoundTripRow : OpenClaim := { program := "ythbhhodlggkegaa", sum := "70ba1df1720c65715a762399201320938bef7b788fe4ea72beba5a0dd79e3f9e", func := "frustum/frustumlaw07.PermuteRoundTrip", spec := "permuteRoundTrip", apart := false }
def PermuteRoundTripSaid : Prop := permuteRoundTripRow.holds Try.pinned (OpenSpec.ofChange permuteRoundTripSpec)

/-- ITS FALSE NEIGHBOUR: 'it returns false'. Refute it at one input. -/
def permuteRoundTripWrong : ChangeSpec := { name := "permuteRoundTrip", fn := fun _ => fun
  | [d1, d2] => { results := [.lit (.bool false)], args := [d1, d2] }
  | _ => none }
def PermuteRoundTripWrongFalsely : Prop := permuteRoundTripRow.holds Try.pinned (OpenSpec.ofChange permuteRoundTripWrong)

/- THE SECOND FORM. 'bulk': how many values and letters a reading holds, each counted each time it is reached (what is shared counts as often as it is met; a slice's spare places count too). A statement '..UptoSaid' is the law's where the arguments, and the package variables that the reading takes, are together of bulk at most 1048576: NARROWER than '..Said'. Prove '..Said' where nothing that the law and all that it calls make is longer than what came in: it says more and counts as full. Else prove '..UptoSaid'. A law counts once. -/
mutual
def uptoBulk {H : Type} : DataW H → Nat
  | .lit (.string bytes) => bytes.length + 1
  | .lit _ => 1
  | .nil => 1
  | .ptr d => uptoBulk d + 1
  | .slice elems spare => uptoBulkAll elems + uptoBulkAll spare + 1
  | .agg parts => uptoBulkAll parts + 1
  | .iface _ d => uptoBulk d + 1
  | .map entries => uptoBulkEntries entries + 1
  | .held _ => 1
def uptoBulkAll {H : Type} : List (DataW H) → Nat
  | [] => 0
  | d :: r => uptoBulk d + uptoBulkAll r
def uptoBulkEntries {H : Type} : List (Lit × DataW H) → Nat
  | [] => 0
  | x :: r => uptoBulkEntry x + uptoBulkEntries r
def uptoBulkEntry {H : Type} : Lit × DataW H → Nat
  | (.string bytes, d) => bytes.length + uptoBulk d + 1
  | (_, d) => uptoBulk d + 1
 end
def uptoSmall : (H : Type) → List (DataW H) → Bool := fun _ ds => decide (uptoBulkAll ds ≤ 1048576)
def OpenSpec.upto (s : _root_.Go.ChangeSpec) : _root_.Go.OpenSpec := { _root_.Go.OpenSpec.ofChange s with cond := some uptoSmall }

/-- 'frustumlaw07.PermuteShuffles', WHERE WHAT IT READS IS OF BULK AT MOST 1048576: true; the input reads as it did. -/
def permuteShufflesUptoRow : OpenClaim := { program := "ythbhhodlggkegaa", sum := "70ba1df1720c65715a762399201320938bef7b788fe4ea72beba5a0dd79e3f9e", func := "frustum/frustumlaw07.PermuteShuffles", spec := "permuteShuffles", apart := false, narrowed := true }
def PermuteShufflesUptoSaid : Prop := permuteShufflesUptoRow.holds Try.pinned (OpenSpec.upto permuteShufflesSpec)

/-- 'frustumlaw07.PermuteNextInjective', WHERE WHAT IT READS IS OF BULK AT MOST 1048576: true; the input reads as it did. -/
def permuteNextInjectiveUptoRow : OpenClaim := { program := "ythbhhodlggkegaa", sum := "70ba1df1720c65715a762399201320938bef7b788fe4ea72beba5a0dd79e3f9e", func := "frustum/frustumlaw07.PermuteNextInjective", spec := "permuteNextInjective", apart := false, narrowed := true }
def PermuteNextInjectiveUptoSaid : Prop := permuteNextInjectiveUptoRow.holds Try.pinned (OpenSpec.upto permuteNextInjectiveSpec)

/-- 'frustumlaw07.PermuteBelowRange', WHERE WHAT IT READS IS OF BULK AT MOST 1048576: true; the input reads as it did. -/
def permuteBelowRangeUptoRow : OpenClaim := { program := "ythbhhodlggkegaa", sum := "70ba1df1720c65715a762399201320938bef7b788fe4ea72beba5a0dd79e3f9e", func := "frustum/frustumlaw07.PermuteBelowRange", spec := "permuteBelowRange", apart := false, narrowed := true }
def PermuteBelowRangeUptoSaid : Prop := permuteBelowRangeUptoRow.holds Try.pinned (OpenSpec.upto permuteBelowRangeSpec)

/-- 'frustumlaw07.PermuteInverts', WHERE WHAT IT READS IS OF BULK AT MOST 1048576: true; the input reads as it did. -/
def permuteInvertsUptoRow : OpenClaim := { program := "ythbhhodlggkegaa", sum := "70ba1df1720c65715a762399201320938bef7b788fe4ea72beba5a0dd79e3f9e", func := "frustum/frustumlaw07.PermuteInverts", spec := "permuteInverts", apart := false, narrowed := true }
def PermuteInvertsUptoSaid : Prop := permuteInvertsUptoRow.holds Try.pinned (OpenSpec.upto permuteInvertsSpec)

/-- 'frustumlaw07.PermutePermIsPermutation', WHERE WHAT IT READS IS OF BULK AT MOST 1048576: true; the input reads as it did. -/
def permutePermIsPermutationUptoRow : OpenClaim := { program := "ythbhhodlggkegaa", sum := "70ba1df1720c65715a762399201320938bef7b788fe4ea72beba5a0dd79e3f9e", func := "frustum/frustumlaw07.PermutePermIsPermutation", spec := "permutePermIsPermutation", apart := false, narrowed := true }
def PermutePermIsPermutationUptoSaid : Prop := permutePermIsPermutationUptoRow.holds Try.pinned (OpenSpec.upto permutePermIsPermutationSpec)

/-- 'frustumlaw07.PermuteApplies', WHERE WHAT IT READS IS OF BULK AT MOST 1048576: true; the input reads as it did. -/
def permuteAppliesUptoRow : OpenClaim := { program := "ythbhhodlggkegaa", sum := "70ba1df1720c65715a762399201320938bef7b788fe4ea72beba5a0dd79e3f9e", func := "frustum/frustumlaw07.PermuteApplies", spec := "permuteApplies", apart := false, narrowed := true }
def PermuteAppliesUptoSaid : Prop := permuteAppliesUptoRow.holds Try.pinned (OpenSpec.upto permuteAppliesSpec)

/-- 'frustumlaw07.PermuteRoundTrip', WHERE WHAT IT READS IS OF BULK AT MOST 1048576: true; the input reads as it did. -/
def permuteRoundTripUptoRow : OpenClaim := { program := "ythbhhodlggkegaa", sum := "70ba1df1720c65715a762399201320938bef7b788fe4ea72beba5a0dd79e3f9e", func := "frustum/frustumlaw07.PermuteRoundTrip", spec := "permuteRoundTrip", apart := false, narrowed := true }
def PermuteRoundTripUptoSaid : Prop := permuteRoundTripUptoRow.holds Try.pinned (OpenSpec.upto permuteRoundTripSpec)

end Rows
end Go.Proofs.Ythbhhodlggkegaa
