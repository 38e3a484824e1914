/- The mask of a pixel, as a number (plain). -/
import Derived.Test.YtimgjlogbkgiaaaPosL
import Derived.Test.YtimgjlogbkgiaaaPlainMask
import Derived.Test.YtimgjlogbkgiaaaEdgeW
namespace Go.Proofs.Ytimgjlogbkgiaaa
open Go.RowKit
/-- Is sample k of the pixel covered? -/
def smB (x0 y0 x1 y1 x2 y2 x y n : Int) (k : Nat) : Bool := decide (0 ≤ spX x y n k) && covB x0 y0 x1 y1 x2 y2 (spX x y n k) (spY x y n k)
def maskI (x0 y0 x1 y1 x2 y2 x y n : Int) : Int := (maskN (smB x0 y0 x1 y1 x2 y2 x y n) (posL n).length : Nat)
end Go.Proofs.Ytimgjlogbkgiaaa
