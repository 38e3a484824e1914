/- EdgeRotation returns true for every triangle and point: the walk's condition holds for all numbers. -/
import Derived.Test.YtmcemnhhmlnfcaaLRot
namespace Go.Proofs.Ytmcemnhhmlnfcaa
open Go.RowKit
theorem validB_rot (x0 y0 x1 y1 x2 y2 : Int) : validB x1 y1 x2 y2 x0 y0 = validB x0 y0 x1 y1 x2 y2 := by
  rw [Bool.eq_iff_iff, validB_iff, validB_iff]
  have := ef_rot x0 y0 x1 y1 x2 y2
  constructor
  · rintro ⟨⟨a, b, c⟩, h⟩; exact ⟨⟨c, a, b⟩, by omega⟩
  · rintro ⟨⟨a, b, c⟩, h⟩; exact ⟨⟨b, c, a⟩, by omega⟩
theorem covB_rot (x0 y0 x1 y1 x2 y2 px py : Int) : covB x1 y1 x2 y2 x0 y0 px py = covB x0 y0 x1 y1 x2 y2 px py := by
  rw [Bool.eq_iff_iff, covB_iff, covB_iff, validB_rot, cov_rot]
theorem tup4 {a b c d a' b' c' d' : Int} (h1 : a = a') (h2 : b = b') (h3 : c = c') (h4 : d = d') : (Value.tuple #[.int .i64 a, .int .i64 b, .int .i64 c, .int .i64 d]) = .tuple #[.int .i64 a', .int .i64 b', .int .i64 c', .int .i64 d'] := by rw [h1, h2, h3, h4]
theorem bdV_rot (x0 y0 x1 y1 x2 y2 : Int) : bdV x1 y1 x2 y2 x0 y0 = bdV x0 y0 x1 y1 x2 y2 := by
  unfold bdV
  rw [validB_rot]
  split
  · exact tup4 (by omega) (by omega) (by omega) (by omega)
  · rfl
theorem law_edgeRotation (x0 y0 z0 u0 x1 y1 z1 u1 x2 y2 z2 u2 : Int) (A0 A1 A2 : Option Addr) (n0 c0 n1 c1 n2 c2 : Nat) (pr : Int) (fr : Bool) (p0 p1 : Int) (w : World) :
    Calls Try.prog 9 #[.agg #[.int .i64 x0, .int .i64 y0, .int .i64 z0, .int .i64 u0, .slice A0 n0 c0, .int .i64 x1, .int .i64 y1, .int .i64 z1, .int .i64 u1, .slice A1 n1 c1, .int .i64 x2, .int .i64 y2, .int .i64 z2, .int .i64 u2, .slice A2 n2 c2, .int .i64 pr, .bool fr], .agg #[.int .i64 p0, .int .i64 p1]] w fun e w' => e = .returned (.bool true) ∧ Below w.heap.size w w' := by
  cases h : validB x0 y0 x1 y1 x2 y2
  · have hb : bdV x0 y0 x1 y1 x2 y2 = .tuple #[.int .i64 0, .int .i64 0, .int .i64 0, .int .i64 0] := by unfold bdV; rw [h]; rfl
    refine rot_walk _ _ _ _ _ _ _ _ _ _ _ _ _ _ _ _ _ _ _ _ _ _ _ p0 p1 w 0 0 0 0 0 0 0 0 (lim p0) (lim p1) false false ?_ ?_ hb ((bdV_rot ..).trans hb) h ((validB_rot ..).trans h) ?_ ?_ rfl rfl (.inl rfl)
    · unfold wtV wtI; rw [h]; rfl
    · unfold wtV wtI; rw [validB_rot, h]; rfl
    · unfold covB; rw [h]; rfl
    · rw [covB_rot]; unfold covB; rw [h]; rfl
  · have hv := (validB_iff ..).1 h
    have hb : bdV x0 y0 x1 y1 x2 y2 = .tuple #[.int .i64 (min (min x0 x1) x2), .int .i64 (min (min y0 y1) y2), .int .i64 (max (max x0 x1) x2), .int .i64 (max (max y0 y1) y2)] := by unfold bdV; rw [h]; rfl
    refine rot_walk _ _ _ _ _ _ _ _ _ _ _ _ _ _ _ _ _ _ _ _ _ _ _ p0 p1 w (efI x1 y1 x2 y2 p0 p1) (efI x2 y2 x0 y0 p0 p1) (efI x0 y0 x1 y1 p0 p1) (efI x1 y1 x2 y2 p0 p1 + efI x2 y2 x0 y0 p0 p1 + efI x0 y0 x1 y1 p0 p1) _ _ _ _ (lim p0) (lim p1) true (covB x0 y0 x1 y1 x2 y2 p0 p1) ?_ ?_ hb ((bdV_rot ..).trans hb) h ((validB_rot ..).trans h) rfl (covB_rot ..) rfl rfl ?_
    · unfold wtV wtI; rw [h]; rfl
    · unfold wtV wtI; rw [validB_rot, h]
      simp only [if_true]
      rw [show efI x2 y2 x0 y0 p0 p1 + efI x0 y0 x1 y1 p0 p1 + efI x1 y1 x2 y2 p0 p1 = efI x1 y1 x2 y2 p0 p1 + efI x2 y2 x0 y0 p0 p1 + efI x0 y0 x1 y1 p0 p1 by omega]
    · cases hc : covB x0 y0 x1 y1 x2 y2 p0 p1
      · exact .inl rfl
      · refine .inr ⟨rfl, ?_⟩
        have box := cov_box hv.2 ((covB_iff ..).1 hc).2
        simp only [decide_eq_true_eq]
        omega
end Go.Proofs.Ytmcemnhhmlnfcaa
