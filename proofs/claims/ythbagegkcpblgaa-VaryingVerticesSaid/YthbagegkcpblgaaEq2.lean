/- Arrays of two numbers, compared. -/
import Derived.Test.YthbagegkcpblgaaBase
import Derived.ChangeKeysEq
namespace Go.Proofs.Ythbagegkcpblgaa
open Go.RowKit
theorem eq2 (a b d e : Int) (w : World) : (Op.equalIn 10000 28 (.agg #[.int .i64 a, .int .i64 b]) (.agg #[.int .i64 d, .int .i64 e])).run Try.prog w = .ok (a == d && b == e) w := by
  have hc : Try.prog.cellsOf 3 = 1 := by kernel_rfl
  have hp : Try.prog.plainKey 3 = true := by kernel_rfl
  have hi : ∃ i, Try.prog.info? 3 = some i := Option.isSome_iff_exists.1 (by kernel_rfl)
  obtain ⟨i, hi⟩ := hi
  have q0 : ∀ (n : Nat) (x y : Int), (Op.equalIn (n + 1) 3 (.int .i64 x) (.int .i64 y)).run Try.prog w = .ok (x == y) w := by
    intro n x y
    simp [Op.equalIn, run_underlying Try.underlying3]
  have q : ∀ x y : Int, (Op.equalIn 9999 3 (.int .i64 x) (.int .i64 y)).run Try.prog w = .ok (x == y) w := fun x y => q0 9998 x y
  clear q0
  have pa : ∀ (x y : Int), (part 3 #[.int .i64 x, .int .i64 y] 0).run Try.prog w = .ok (.int .i64 x) w := fun x y => run_part_plain w hp rfl
  have pb : ∀ (x y : Int), (part 3 #[.int .i64 x, .int .i64 y] 1).run Try.prog w = .ok (.int .i64 y) w := fun x y => run_part_plain w hp rfl
  rw [show (10000 : Nat) = 9999 + 1 from rfl, run_equalIn_array w 9999 _ _ Try.underlying28 hi, hc, show List.range 2 = [0, 1] from rfl]
  simp only [Op.eqItems, Sem.run_bind, Nat.mul_one, pa, Result.andThen_ok, q]
  by_cases ha : a = d <;> by_cases hb : b = e <;> simp [ha, hb, pb, q]
@[go_sem] theorem eq2_same (a b : Int) (w : World) : (Op.equalIn 10000 28 (.agg #[.int .i64 a, .int .i64 b]) (.agg #[.int .i64 a, .int .i64 b])).run Try.prog w = .ok true w := by
  rw [eq2]; simp
end Go.Proofs.Ythbagegkcpblgaa
