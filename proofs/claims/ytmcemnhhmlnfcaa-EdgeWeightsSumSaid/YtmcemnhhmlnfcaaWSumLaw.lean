/- EdgeWeightsSum returns true for every triangle and two points: the walk's condition holds for all numbers. -/
import Derived.Test.YtmcemnhhmlnfcaaLWSum
namespace Go.Proofs.Ytmcemnhhmlnfcaa
open Go.RowKit
theorem law_edgeWeightsSum (x0 y0 z0 u0 x1 y1 z1 u1 x2 y2 z2 u2 : Int) (A0 A1 A2 : Option Addr) (n0 c0 n1 c1 n2 c2 : Nat) (pr : Int) (fr : Bool) (p0 p1 q0 q1 : Int) (w : World) :
    Calls Try.prog 5 #[.agg #[.int .i64 x0, .int .i64 y0, .int .i64 z0, .int .i64 u0, .slice A0 n0 c0, .int .i64 x1, .int .i64 y1, .int .i64 z1, .int .i64 u1, .slice A1 n1 c1, .int .i64 x2, .int .i64 y2, .int .i64 z2, .int .i64 u2, .slice A2 n2 c2, .int .i64 pr, .bool fr], .agg #[.int .i64 p0, .int .i64 p1], .agg #[.int .i64 q0, .int .i64 q1]] w fun e w' => e = .returned (.bool true) ∧ Below w.heap.size w w' := by
  cases h : validB x0 y0 x1 y1 x2 y2
  · refine wsum_no _ _ _ _ _ _ _ _ _ _ _ _ _ _ _ _ _ _ _ _ _ _ _ p0 p1 q0 q1 w h ?_ ?_
    all_goals
      unfold wtV wtI
      rw [h]
      rfl
  · have hv := (validB_iff ..).1 h
    have sum : ∀ a b, efI x1 y1 x2 y2 a b + efI x2 y2 x0 y0 a b + efI x0 y0 x1 y1 a b = efI x0 y0 x1 y1 x2 y2 := fun a b => by unfold efI; exact ef_sum ..
    have pos : 0 < efI x0 y0 x1 y1 x2 y2 := by
      obtain ⟨⟨⟨a1, a2, a3, a4⟩, ⟨a5, a6, a7, a8⟩, ⟨a9, a10, a11, a12⟩⟩, hp⟩ := hv
      unfold efI ef
      rw [lim_id a1 a2, lim_id a3 a4, lim_id a5 a6, lim_id a7 a8, lim_id a9 a10, lim_id a11 a12]
      exact hp
    have wrap2 : ∀ a b, IntKind.i64.wrap (efI x1 y1 x2 y2 a b + efI x2 y2 x0 y0 a b) = efI x1 y1 x2 y2 a b + efI x2 y2 x0 y0 a b := fun a b => by
      have h1 := efI_bound x1 y1 x2 y2 a b
      have h2 := efI_bound x2 y2 x0 y0 a b
      rw [IntKind.wrap_i64]; omega
    have wrap3 : ∀ a b, IntKind.i64.wrap (efI x1 y1 x2 y2 a b + efI x2 y2 x0 y0 a b + efI x0 y0 x1 y1 a b) = efI x0 y0 x1 y1 x2 y2 := fun a b => by
      rw [sum]
      have h1 := efI_bound x0 y0 x1 y1 x2 y2
      rw [IntKind.wrap_i64]; omega
    have tup : ∀ a b, wtV x0 y0 x1 y1 x2 y2 a b = .tuple #[.agg #[.int .i64 (efI x1 y1 x2 y2 a b), .int .i64 (efI x2 y2 x0 y0 a b), .int .i64 (efI x0 y0 x1 y1 a b)], .int .i64 (efI x0 y0 x1 y1 x2 y2)] := fun a b => by
      unfold wtV wtI
      rw [h]
      simp only [if_true]
      rw [sum]
    have at0 : ∀ a b c d, efI a b c d a b = 0 := fun a b c d => by unfold efI; exact ef_at0 ..
    have at1 : ∀ a b c d, efI a b c d c d = 0 := fun a b c d => by unfold efI; exact ef_at1 ..
    have rot : ∀ a b c d e f, efI c d e f a b = efI a b c d e f := fun a b c d e f => by unfold efI; exact ef_rot ..
    refine wsum_yes _ _ _ _ _ _ _ _ _ _ _ _ _ _ _ _ _ _ _ _ _ _ _ p0 p1 q0 q1 w _ _ _ _ _ _ (efI x0 y0 x1 y1 x2 y2) h (tup _ _) (tup _ _) ?_ ?_ ?_ (by simpa using pos) (wrap2 _ _) (wrap3 _ _) (wrap2 _ _) (wrap3 _ _)
    · rw [tup, rot x0 y0, at1, at0]
    · rw [tup, at0, at1, rot x1 y1 x2 y2 x0 y0, rot x0 y0 x1 y1 x2 y2]
    · rw [tup, at1, at0]
end Go.Proofs.Ytmcemnhhmlnfcaa
