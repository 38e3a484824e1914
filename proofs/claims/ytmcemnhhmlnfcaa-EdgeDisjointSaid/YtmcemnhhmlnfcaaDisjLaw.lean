/- EdgeDisjoint returns true for every five points: the walk's condition holds for all numbers. -/
import Derived.Test.YtmcemnhhmlnfcaaLDisj
namespace Go.Proofs.Ytmcemnhhmlnfcaa
open Go.RowKit
theorem law_edgeDisjoint (a0 a1 b0 b1 c0 c1 d0 d1 p0 p1 : Int) (w : World) :
    Calls Try.prog 6 #[.agg #[.int .i64 a0, .int .i64 a1, .int .i64 b0, .int .i64 b1, .int .i64 c0, .int .i64 c1, .int .i64 d0, .int .i64 d1], .agg #[.int .i64 p0, .int .i64 p1]] w fun e w' => e = .returned (.bool true) ∧ Below w.heap.size w w' := by
  refine disj_walk a0 a1 b0 b1 c0 c1 d0 d1 p0 p1 w _ _ _ _ rfl rfl rfl rfl ?_
  have h1 := covB_iff a0 a1 b0 b1 c0 c1 p0 p1
  have h2 := covB_iff b0 b1 a0 a1 d0 d1 p0 p1
  have no : ¬ (covB a0 a1 b0 b1 c0 c1 p0 p1 = true ∧ covB b0 b1 a0 a1 d0 d1 p0 p1 = true) := by
    rintro ⟨g1, g2⟩
    exact acc_not (h1.1 g1).2.1 (h2.1 g2).2.1
  cases e1 : covB a0 a1 b0 b1 c0 c1 p0 p1
  · cases e2 : covB b0 b1 a0 a1 d0 d1 p0 p1
    · exact .inl ⟨rfl, rfl⟩
    · exact .inr (.inr ⟨rfl, rfl, (h2.1 e2).1⟩)
  · cases e2 : covB b0 b1 a0 a1 d0 d1 p0 p1
    · exact .inr (.inl ⟨rfl, (h1.1 e1).1, rfl⟩)
    · exact absurd ⟨e1, e2⟩ no
end Go.Proofs.Ytmcemnhhmlnfcaa
