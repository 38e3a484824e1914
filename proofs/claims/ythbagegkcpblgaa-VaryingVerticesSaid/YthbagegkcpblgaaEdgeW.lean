/- The words for edges: the edge function of limited coordinates, whether an edge accepts a point, whether a triangle is valid, whether it covers a point. -/
import Derived.Test.YthbagegkcpblgaaBase
import Derived.Test.YthbagegkcpblgaaPlainEdge
namespace Go.Proofs.Ythbagegkcpblgaa
open Go.RowKit
/-- The edge function, its coordinates limited to the screen. -/
def efI (ax ay bx by' px py : Int) : Int := ef (lim ax) (lim ay) (lim bx) (lim by') (lim px) (lim py)
def tlB (ax ay bx by' : Int) : Bool := decide (lim by' < lim ay) || (lim by' == lim ay && decide (lim ax < lim bx))
def accB (ax ay bx by' px py : Int) : Bool := decide (0 < efI ax ay bx by' px py) || (efI ax ay bx by' px py == 0 && tlB ax ay bx by')
theorem tlB_iff (ax ay bx by' : Int) : tlB ax ay bx by' = true ↔ tl (lim ax) (lim ay) (lim bx) (lim by') := by unfold tlB tl; simp
theorem accB_iff (ax ay bx by' px py : Int) : accB ax ay bx by' px py = true ↔ acc (lim ax) (lim ay) (lim bx) (lim by') (lim px) (lim py) := by
  unfold accB acc efI; rw [Bool.or_eq_true, Bool.and_eq_true, tlB_iff]; simp
theorem efI_bound (ax ay bx by' px py : Int) : -536870912 ≤ efI ax ay bx by' px py ∧ efI ax ay bx by' px py ≤ 536870912 := by
  have l := lim_lo
  have h := lim_hi
  obtain ⟨m1, m2⟩ := mul_bound (a := lim bx - lim ax) (b := lim py - lim ay) (by have := l bx; have := h ax; omega) (by have := h bx; have := l ax; omega) (by have := l py; have := h ay; omega) (by have := h py; have := l ay; omega)
  obtain ⟨m3, m4⟩ := mul_bound (a := lim by' - lim ay) (b := lim px - lim ax) (by have := l by'; have := h ay; omega) (by have := h by'; have := l ay; omega) (by have := l px; have := h ax; omega) (by have := h px; have := l ax; omega)
  unfold efI ef
  omega
/-- Lies the triangle on the screen, and is its area positive? -/
def validB (x0 y0 x1 y1 x2 y2 : Int) : Bool := inRB x0 y0 x1 y1 x2 y2 && decide (0 < areaI x0 y0 x1 y1 x2 y2)
theorem validB_iff (x0 y0 x1 y1 x2 y2 : Int) : validB x0 y0 x1 y1 x2 y2 = true ↔ ((0 ≤ x0 ∧ x0 ≤ 16384 ∧ 0 ≤ y0 ∧ y0 ≤ 16384) ∧ (0 ≤ x1 ∧ x1 ≤ 16384 ∧ 0 ≤ y1 ∧ y1 ≤ 16384) ∧ (0 ≤ x2 ∧ x2 ≤ 16384 ∧ 0 ≤ y2 ∧ y2 ≤ 16384)) ∧ 0 < ef x0 y0 x1 y1 x2 y2 := by
  unfold validB
  rw [Bool.and_eq_true, decide_eq_true_eq]
  constructor
  · rintro ⟨h, h'⟩
    rw [areaI_yes h] at h'
    exact ⟨(inRB_iff ..).1 h, h'⟩
  · rintro ⟨h, h'⟩
    have h2 := (inRB_iff ..).2 h
    rw [areaI_yes h2]
    exact ⟨h2, h'⟩
/-- Does the triangle cover the point? -/
def covB (x0 y0 x1 y1 x2 y2 px py : Int) : Bool := validB x0 y0 x1 y1 x2 y2 && (accB x0 y0 x1 y1 px py && accB x1 y1 x2 y2 px py && accB x2 y2 x0 y0 px py)
theorem covB_iff (x0 y0 x1 y1 x2 y2 px py : Int) : covB x0 y0 x1 y1 x2 y2 px py = true ↔ validB x0 y0 x1 y1 x2 y2 = true ∧ cov x0 y0 x1 y1 x2 y2 (lim px) (lim py) := by
  unfold covB cov
  rw [Bool.and_eq_true]
  refine and_congr_right fun h => ?_
  obtain ⟨⟨⟨a1, a2, a3, a4⟩, ⟨a5, a6, a7, a8⟩, ⟨a9, a10, a11, a12⟩⟩, _⟩ := (validB_iff ..).1 h
  rw [Bool.and_eq_true, Bool.and_eq_true, accB_iff, accB_iff, accB_iff, lim_id a1 a2, lim_id a3 a4, lim_id a5 a6, lim_id a7 a8, lim_id a9 a10, lim_id a11 a12]
  constructor
  · rintro ⟨⟨h1, h2⟩, h3⟩; exact ⟨h1, h2, h3⟩
  · rintro ⟨h1, h2, h3⟩; exact ⟨⟨h1, h2⟩, h3⟩
end Go.Proofs.Ythbagegkcpblgaa
