/- The greatest common divisor of the law's file. -/
import Derived.Test.YtgalpmiojgjkhaaFresh
namespace Go.Proofs.Ytgalpmiojgjkhaa
open Go.RowKit
attribute [local go_sem] Ext.cell
set_option maxHeartbeats 4000000 in
theorem divisor_any (a b : Nat) (ha : a ≤ 16384) (hb : b ≤ 16384) (w : World) :
    Calls Try.prog 13 #[.int .i64 a, .int .i64 b] w fun e w' => e = .returned (.int .i64 (Nat.gcd a b : Nat)) ∧ Below w.heap.size w w' := by
  obtain ⟨g, hg⟩ : ∃ g, Nat.gcd a b = g := ⟨_, rfl⟩
  rw [hg]
  replace hg := Lib.hid hg
  go_enter Try.func13, Try.ntmps13
  go_wp2_with fail
  go_loopw [0, 1, 5] (fun x y _ wr => ∃ p q : Nat, x = .int .i64 p ∧ y = .int .i64 q ∧ p ≤ 16384 ∧ q ≤ 16384 ∧ Hid (Nat.gcd p q = g) ∧ Below w.heap.size w wr)
  (fun _ y _ _ => (intOf y).toNat)
  case atStart => exact ⟨a, b, rfl, rfl, ha, hb, hg, Below.refl _ _⟩
  case round =>
    obtain ⟨p, q, rfl, rfl, hp, hq, hG, hB⟩ := hrel
    replace hB := Lib.hid hB
    by_cases h0 : 0 < q
    · have h1 : (0 : Int) < q := by omega
      have hm : p % q < q := Nat.mod_lt _ h0
      have ht : Int.tmod (p : Int) (q : Int) = ((p % q : Nat) : Int) := rfl
      go_wp2
      go_roundw
      case rel => exact ⟨q, p % q, rfl, by go_num, hq, by omega, Lib.hid (by rw [← hG.out, Nat.gcd_comm q, ← Nat.gcd_rec q p, Nat.gcd_comm q]), hB.out⟩
      case measure => simp [intOf]; omega
    · have h1 : q = 0 := by omega
      subst h1
      have : p = g := by rw [← hG.out]; simp
      go_wp2
      go_ret
      exact ⟨ret_int (by rw [this]), hB.out⟩
end Go.Proofs.Ytgalpmiojgjkhaa
