/- The samples' positions as plain numbers, and a sample's point. -/
import Derived.Test.YtimgjlogbkgiaaaFresh
namespace Go.Proofs.Ytimgjlogbkgiaaa
open Go.RowKit
/-- The positions of n samples. -/
def posL (n : Int) : List (Int × Int) := if n = 1 then [(128, 128)] else if n = 2 then [(192, 192), (64, 64)] else if n = 4 then [(96, 32), (224, 96), (32, 160), (160, 224)] else if n = 8 then [(144, 80), (112, 176), (208, 144), (80, 48), (48, 208), (16, 112), (176, 240), (240, 16)] else []
/-- Is there such a sample of such a pixel? -/
def isS (x y n i : Int) : Prop := 0 ≤ x ∧ x < 64 ∧ 0 ≤ y ∧ y < 64 ∧ 0 ≤ i ∧ i < (posL n).length
instance (x y n i : Int) : Decidable (isS x y n i) := by unfold isS; infer_instance
def spX (x y n i : Int) : Int := if isS x y n i then x * 256 + ((posL n).getD i.toNat (0, 0)).1 else -1
def spY (x y n i : Int) : Int := if isS x y n i then y * 256 + ((posL n).getD i.toNat (0, 0)).2 else -1
theorem posL_none {n : Int} (h1 : (n == 1) = false) (h2 : (n == 2) = false) (h4 : (n == 4) = false) (h8 : (n == 8) = false) : posL n = [] := by
  simp only [beq_eq_false_iff_ne, ne_eq] at h1 h2 h4 h8
  unfold posL
  rw [if_neg h1, if_neg h2, if_neg h4, if_neg h8]
theorem sp_no {x y n i : Int} (h : ¬ isS x y n i) : spX x y n i = -1 ∧ spY x y n i = -1 := by unfold spX spY; rw [if_neg h, if_neg h]; exact ⟨rfl, rfl⟩
theorem sp_yes {x y n i : Int} (h : isS x y n i) : spX x y n i = x * 256 + ((posL n).getD i.toNat (0, 0)).1 ∧ spY x y n i = y * 256 + ((posL n).getD i.toNat (0, 0)).2 := by unfold spX spY; rw [if_pos h, if_pos h]; exact ⟨rfl, rfl⟩
theorem posL_len (n : Int) : (posL n).length ≤ 8 := by
  unfold posL
  repeat' split
  all_goals simp
theorem ret_two {a b a' b' : Int} (h1 : a = a') (h2 : b = b') : Ending.returned (.tuple #[.int .i64 a, .int .i64 b]) = .returned (.tuple #[.int .i64 a', .int .i64 b']) := by rw [h1, h2]
end Go.Proofs.Ytimgjlogbkgiaaa
