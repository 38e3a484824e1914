/- EdgeShared returns true for every three points: the walk's condition holds for all numbers. -/
import Derived.Test.YtmcemnhhmlnfcaaLShared
namespace Go.Proofs.Ytmcemnhhmlnfcaa
open Go.RowKit
theorem law_edgeShared (ax ay bx by' px py : Int) (w : World) :
    Calls Try.prog 3 #[.agg #[.int .i64 ax, .int .i64 ay], .agg #[.int .i64 bx, .int .i64 by'], .agg #[.int .i64 px, .int .i64 py]] w fun e w' => e = .returned (.bool true) ∧ Below w.heap.size w w' := by
  refine shared_walk ax ay bx by' px py w _ _ _ _ _ _ _ _ _ _ _ _ rfl rfl rfl rfl rfl rfl rfl rfl rfl rfl rfl rfl ?_
  have sw : efI ax ay bx by' px py = - efI bx by' ax ay px py := by unfold efI; rw [ef_swap]
  by_cases h : lim ax = lim bx ∧ lim ay = lim by'
  · obtain ⟨h1, h2⟩ := h
    have z : efI ax ay bx by' px py = 0 := by unfold efI; rw [h1, h2, ef_same]
    have z' : efI bx by' ax ay px py = 0 := by omega
    refine .inl ⟨by simp [h1], by simp [h2], z, z', ?_, ?_⟩
    · unfold accB tlB; rw [z, h1, h2]; simp
    · unfold accB tlB; rw [z', h1, h2]; simp
  · have one := acc_one (lim px) (lim py) h
    have not : ¬ (acc (lim ax) (lim ay) (lim bx) (lim by') (lim px) (lim py) ∧ acc (lim bx) (lim by') (lim ax) (lim ay) (lim px) (lim py)) := fun h => acc_not h.1 h.2
    refine .inr ⟨?_, sw, ?_, ?_, ?_, ?_⟩
    · have : ¬ lim ax = lim bx ∨ ¬ lim ay = lim by' := by omega
      rcases this with h | h
      · exact .inl (by simpa using h)
      · exact .inr (by simpa using h)
    · rw [← accB_iff, ← accB_iff] at one not
      generalize accB ax ay bx by' px py = x at *
      generalize accB bx by' ax ay px py = y at *
      cases x <;> cases y <;> simp_all
    · unfold tlB
      rw [Bool.eq_iff_iff]
      simp
      omega
    · intro hf
      rw [accB_iff]
      exact .inl hf
    · intro hf
      have h1 : ¬ accB ax ay bx by' px py = true := by
        rw [accB_iff]
        intro hh
        have := acc_nonneg hh
        unfold efI at hf
        omega
      simpa using h1
end Go.Proofs.Ytmcemnhhmlnfcaa
