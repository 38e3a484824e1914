/- EdgeSplit returns true for every triangle and two points. -/
import Derived.Test.YtmcemnhhmlnfcaaLSplit
namespace Go.Proofs.Ytmcemnhhmlnfcaa
open Go.RowKit
attribute [local go_sem] Ext.cell
theorem law_edgeSplit (x0 y0 z0 u0 x1 y1 z1 u1 x2 y2 z2 u2 : Int) (A0 A1 A2 : Option Addr) (n0 c0 n1 c1 n2 c2 : Nat) (pr : Int) (fr : Bool) (m0 m1 p0 p1 : Int) (w : World) :
    Calls Try.prog 7 #[.agg #[.int .i64 x0, .int .i64 y0, .int .i64 z0, .int .i64 u0, .slice A0 n0 c0, .int .i64 x1, .int .i64 y1, .int .i64 z1, .int .i64 u1, .slice A1 n1 c1, .int .i64 x2, .int .i64 y2, .int .i64 z2, .int .i64 u2, .slice A2 n2 c2, .int .i64 pr, .bool fr], .agg #[.int .i64 m0, .int .i64 m1], .agg #[.int .i64 p0, .int .i64 p1]] w fun e w' => e = .returned (.bool true) ∧ Below w.heap.size w w' := by
  refine split_walk _ _ _ _ _ _ _ _ _ _ _ _ _ _ _ _ _ _ _ _ _ _ _ m0 m1 p0 p1 w _ _ _ _ _ _ _ rfl rfl rfl rfl rfl rfl rfl _ rfl ?_
  cases v1 : validB x0 y0 x1 y1 x2 y2
  · exact .inl rfl
  cases v2 : validB x0 y0 x1 y1 m0 m1
  · exact .inr (.inl ⟨rfl, rfl⟩)
  cases v3 : validB x0 y0 m0 m1 x2 y2
  · exact .inr (.inr (.inl ⟨rfl, rfl, rfl⟩))
  cases v4 : (efI x1 y1 x2 y2 m0 m1 != 0)
  rotate_left
  · exact .inr (.inr (.inr (.inl ⟨rfl, rfl, rfl, rfl⟩)))
  refine .inr (.inr (.inr (.inr ⟨rfl, rfl, rfl, rfl, ?_⟩)))
  obtain ⟨⟨⟨a1, a2, a3, a4⟩, ⟨a5, a6, a7, a8⟩, ⟨a9, a10, a11, a12⟩⟩, ha⟩ := (validB_iff ..).1 v1
  obtain ⟨⟨_, _, ⟨b1, b2, b3, b4⟩⟩, hu⟩ := (validB_iff ..).1 v2
  have hv := ((validB_iff ..).1 v3).2
  have hm : ef x1 y1 x2 y2 m0 m1 = 0 := by
    have : efI x1 y1 x2 y2 m0 m1 = 0 := by simpa [bne] using v4
    unfold efI at this
    rwa [lim_id a5 a6, lim_id a7 a8, lim_id a9 a10, lim_id a11 a12, lim_id b1 b2, lim_id b3 b4] at this
  have S := split_of hu hv hm
  have hne : ¬ (x0 = m0 ∧ y0 = m1) := by
    rintro ⟨r1, r2⟩
    rw [← r1, ← r2, ef_at0] at hu
    omega
  have q := cov_split S hne (lim p0) (lim p1)
  have r0 := covB_iff x0 y0 x1 y1 x2 y2 p0 p1
  have r1 := covB_iff x0 y0 x1 y1 m0 m1 p0 p1
  have r2 := covB_iff x0 y0 m0 m1 x2 y2 p0 p1
  rw [v1] at r0
  rw [v2] at r1
  rw [v3] at r2
  simp only [true_and] at r0 r1 r2
  rw [← r0, ← r1, ← r2] at q
  generalize covB x0 y0 x1 y1 x2 y2 p0 p1 = b0 at *
  generalize covB x0 y0 x1 y1 m0 m1 p0 p1 = b1 at *
  generalize covB x0 y0 m0 m1 x2 y2 p0 p1 = b2 at *
  revert q
  clear r0 r1 r2
  cases b0 <;> cases b1 <;> cases b2 <;> simp
end Go.Proofs.Ytmcemnhhmlnfcaa
