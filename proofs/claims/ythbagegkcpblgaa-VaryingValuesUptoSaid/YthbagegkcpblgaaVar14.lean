/- Both Perspectives give the same two ratios, at any point. -/
import Derived.Test.YthbagegkcpblgaaVar7
namespace Go.Proofs.Ythbagegkcpblgaa
open Go.RowKit
theorem per_ex (x0 y0 z0 u0 x1 y1 z1 u1 x2 y2 z2 u2 : Int) (A0 A1 A2 : Option Addr) (n0 c0 n1 c1 n2 c2 : Nat) (pr : Int) (fr : Bool) (px py : Int) : ∃ r0 r1, (∀ w, Calls Try.prog 19 #[.agg #[.int .i64 x0, .int .i64 y0, .int .i64 z0, .int .i64 u0, .slice A0 n0 c0, .int .i64 x1, .int .i64 y1, .int .i64 z1, .int .i64 u1, .slice A1 n1 c1, .int .i64 x2, .int .i64 y2, .int .i64 z2, .int .i64 u2, .slice A2 n2 c2, .int .i64 pr, .bool fr], .int .i64 px, .int .i64 py] w fun e w' => e = .returned (.agg #[.int .i64 r0, .int .i64 r1]) ∧ Below w.heap.size w w') ∧ (∀ w, Calls Try.prog 20 #[.agg #[.int .i64 x0, .int .i64 y0, .int .i64 z0, .int .i64 u0, .slice A0 n0 c0, .int .i64 x1, .int .i64 y1, .int .i64 z1, .int .i64 u1, .slice A1 n1 c1, .int .i64 x2, .int .i64 y2, .int .i64 z2, .int .i64 u2, .slice A2 n2 c2, .int .i64 pr, .bool fr], .int .i64 px, .int .i64 py] w fun e w' => e = .returned (.agg #[.int .i64 r0, .int .i64 r1]) ∧ Below w.heap.size w w') := by
  obtain ⟨m0, h0⟩ : ∃ m, max 0 (wtI (validB x0 y0 x1 y1 x2 y2) x1 y1 x2 y2 px py) = m := ⟨_, rfl⟩
  obtain ⟨m1, h1⟩ : ∃ m, max 0 (wtI (validB x0 y0 x1 y1 x2 y2) x2 y2 x0 y0 px py) = m := ⟨_, rfl⟩
  obtain ⟨m2, h2⟩ : ∃ m, max 0 (wtI (validB x0 y0 x1 y1 x2 y2) x0 y0 x1 y1 px py) = m := ⟨_, rfl⟩
  obtain ⟨p0, k0⟩ : ∃ p, m0 * clampI u0 0 16777216 = p := ⟨_, rfl⟩
  obtain ⟨p1, k1⟩ : ∃ p, m1 * clampI u1 0 16777216 = p := ⟨_, rfl⟩
  obtain ⟨p2, k2⟩ : ∃ p, m2 * clampI u2 0 16777216 = p := ⟨_, rfl⟩
  obtain ⟨s0, s1, hs⟩ := pres_ex m0 m1 m2 p0 p1 p2
  exact ⟨s0, s1, fun w => persp_at x0 y0 z0 u0 x1 y1 z1 u1 x2 y2 z2 u2 A0 A1 A2 n0 c0 n1 c1 n2 c2 pr fr px py w m0 m1 m2 h0 h1 h2 p0 p1 p2 k0 k1 k2 s0 s1 hs, fun w => rPersp_at x0 y0 z0 u0 x1 y1 z1 u1 x2 y2 z2 u2 A0 A1 A2 n0 c0 n1 c1 n2 c2 pr fr px py w m0 m1 m2 h0 h1 h2 p0 p1 p2 k0 k1 k2 s0 s1 hs⟩
end Go.Proofs.Ythbagegkcpblgaa
