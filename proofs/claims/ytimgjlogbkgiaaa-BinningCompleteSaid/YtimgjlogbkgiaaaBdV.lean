/- The bounds of a triangle as one value, of the program and of the reference; what is known of a tile's rectangle. -/
import Derived.Test.YtimgjlogbkgiaaaBounds
import Derived.Test.YtimgjlogbkgiaaaRBounds
import Derived.Test.YtimgjlogbkgiaaaTiles
namespace Go.Proofs.Ytimgjlogbkgiaaa
open Go.RowKit
attribute [local go_sem] Ext.cell
/-- The four bounds, as one value. -/
def bdV (x0 y0 x1 y1 x2 y2 : Int) : Value := if validB x0 y0 x1 y1 x2 y2 = true then .tuple #[.int .i64 (min (min x0 x1) x2), .int .i64 (min (min y0 y1) y2), .int .i64 (max (max x0 x1) x2), .int .i64 (max (max y0 y1) y2)] else .tuple #[.int .i64 0, .int .i64 0, .int .i64 0, .int .i64 0]
theorem bounds_tup (x0 y0 z0 u0 x1 y1 z1 u1 x2 y2 z2 u2 : Int) (A0 A1 A2 : Option Addr) (n0 c0 n1 c1 n2 c2 : Nat) (pr : Int) (fr : Bool) (w : World) (a b c d : Int) (h : bdV x0 y0 x1 y1 x2 y2 = .tuple #[.int .i64 a, .int .i64 b, .int .i64 c, .int .i64 d]) :
    Calls Try.prog 27 #[.agg #[.int .i64 x0, .int .i64 y0, .int .i64 z0, .int .i64 u0, .slice A0 n0 c0, .int .i64 x1, .int .i64 y1, .int .i64 z1, .int .i64 u1, .slice A1 n1 c1, .int .i64 x2, .int .i64 y2, .int .i64 z2, .int .i64 u2, .slice A2 n2 c2, .int .i64 pr, .bool fr]] w fun e w' => e = .returned (.tuple #[.int .i64 a, .int .i64 b, .int .i64 c, .int .i64 d]) ∧ Below w.heap.size w w' := by
  rw [← h]
  unfold bdV
  split
  · rename_i hv; exact bounds_yes _ _ _ _ _ _ _ _ _ _ _ _ _ _ _ _ _ _ _ _ _ _ _ _ hv
  · rename_i hv; exact bounds_no _ _ _ _ _ _ _ _ _ _ _ _ _ _ _ _ _ _ _ _ _ _ _ _ (by simpa using hv)
theorem rBounds_tup (x0 y0 z0 u0 x1 y1 z1 u1 x2 y2 z2 u2 : Int) (A0 A1 A2 : Option Addr) (n0 c0 n1 c1 n2 c2 : Nat) (pr : Int) (fr : Bool) (w : World) (a b c d : Int) (h : bdV x0 y0 x1 y1 x2 y2 = .tuple #[.int .i64 a, .int .i64 b, .int .i64 c, .int .i64 d]) :
    Calls Try.prog 29 #[.agg #[.int .i64 x0, .int .i64 y0, .int .i64 z0, .int .i64 u0, .slice A0 n0 c0, .int .i64 x1, .int .i64 y1, .int .i64 z1, .int .i64 u1, .slice A1 n1 c1, .int .i64 x2, .int .i64 y2, .int .i64 z2, .int .i64 u2, .slice A2 n2 c2, .int .i64 pr, .bool fr]] w fun e w' => e = .returned (.tuple #[.int .i64 a, .int .i64 b, .int .i64 c, .int .i64 d]) ∧ Below w.heap.size w w' := by
  rw [← h]
  unfold bdV
  split
  · rename_i hv; exact rBounds_yes _ _ _ _ _ _ _ _ _ _ _ _ _ _ _ _ _ _ _ _ _ _ _ _ hv
  · rename_i hv; exact rBounds_no _ _ _ _ _ _ _ _ _ _ _ _ _ _ _ _ _ _ _ _ _ _ _ _ (by simpa using hv)
theorem rect_bd (W H t : Int) : 0 ≤ rectX W H t ∧ rectX W H t ≤ 64 ∧ 0 ≤ rectY W H t ∧ rectY W H t ≤ 64 ∧ -64 ≤ rectW W H t ∧ rectW W H t ≤ 8 ∧ -64 ≤ rectH W H t ∧ rectH W H t ≤ 8 := by
  by_cases h : 0 ≤ t ∧ t < tilesI W H
  · obtain ⟨e1, e2, e3, e4⟩ := rect_yes h
    obtain ⟨c, r, hc, hr, f⟩ := tile_facts h
    rw [e1, e2, e3, e4, hc]
    generalize t % c = m at *
    generalize t / c = q at *
    generalize c * r = p at *
    omega
  · obtain ⟨e1, e2, e3, e4⟩ := rect_no h
    omega
/-- Does the bounding box of the triangle touch the tile? -/
def tcB (x0 y0 x1 y1 x2 y2 W H t : Int) : Bool := !(rectW W H t == 0) && (validB x0 y0 x1 y1 x2 y2 && (decide (min (min x0 x1) x2 ≤ (rectX W H t + rectW W H t) * 256) && decide (rectX W H t * 256 ≤ max (max x0 x1) x2) && decide (min (min y0 y1) y2 ≤ (rectY W H t + rectH W H t) * 256) && decide (rectY W H t * 256 ≤ max (max y0 y1) y2)))
end Go.Proofs.Ytimgjlogbkgiaaa
