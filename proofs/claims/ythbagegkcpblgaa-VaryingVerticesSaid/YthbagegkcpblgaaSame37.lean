/- frustum/frustumref37.Same: two equal lists. -/
import Derived.Test.YthbagegkcpblgaaSl
import Derived.BigRegion
namespace Go.Proofs.Ythbagegkcpblgaa
open Go.RowKit
set_option maxHeartbeats 4000000 in
theorem same_sl (n : Nat) (h2 : n ≤ 4611686018427387904) (f : Nat → Int) (A B : Option Addr) (ca cb : Nat) (w : World) (k1 : Sl w A n ca f) (k2 : Sl w B n cb f) :
    Calls Try.prog 11 #[.slice A n ca, .slice B n cb] w fun e w' => e = .returned (.bool true) ∧ Below w.heap.size w w' := by
  have n0 : (0 : Int) ≤ n := by omega
  have n2 : (n : Int) ≤ 4611686018427387904 := by omega
  replace k1 := Lib.hid k1
  replace k2 := Lib.hid k2
  go_enter Try.func11, Try.ntmps11
  go_wp2_with fail
  go_loopw [5] (fun i wr => ∃ k : Nat, k ≤ n ∧ i = .int .i64 k ∧ Below w.heap.size w wr)
    (fun i _ => n - (intOf i).toNat)
  case atStart => exact ⟨0, by omega, rfl, Below.refl _ _⟩
  case round =>
    obtain ⟨k, hk, rfl, hB⟩ := hrel
    replace hB := Lib.hid hB
    by_cases hlt : k < n
    · have hlt' : (k : Int) < n := by omega
      obtain ⟨a, rfl, -, c1⟩ := (k1.out.call hB.out).get hlt
      obtain ⟨b, rfl, -, c2⟩ := (k2.out.call hB.out).get hlt
      go_wp2_with fail
      go_region
      all_goals
        go_wp2
        go_roundw
        case rel => exact ⟨k + 1, by omega, by go_num, hB.out.drew⟩
        case measure => simp [intOf]; omega
    · have hlt' : (n : Int) ≤ k := by omega
      go_wp2
      go_ret
      exact ⟨rfl, hB.out⟩
end Go.Proofs.Ythbagegkcpblgaa
