/- Two closed facts on the program; arguments that are arrays of integers, opened to their cells. -/
import Derived.Test.YthbagegkcpblgaaBase
import Derived.Test.YthbagegkcpblgaaRows
import Derived.ProofKit
import Derived.OpenShut
import Derived.ShutString
import Derived.ChangeOld
import Derived.SizedLaws
namespace Go.Proofs.Ythbagegkcpblgaa
open Go.ChangeShapes Go.WideShapes Go.ChangeAt Go.RowKit
theorem own : ownKnob Try.prog.godebug = none := by kernel_rfl
theorem laidOut : laidOutB Try.prog = true := by kernel_rfl
end Go.Proofs.Ythbagegkcpblgaa
