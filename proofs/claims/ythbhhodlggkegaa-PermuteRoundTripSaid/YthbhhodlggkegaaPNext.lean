/- permute.Next, Below and the reference's: what they compute. -/
import Derived.Test.YthbhhodlggkegaaBase
import Derived.Laws.Bits64
namespace Go.Proofs.Ythbhhodlggkegaa
open Go.RowKit
/-- The next state. -/
def sI (s : Int) : Int := IntKind.u64.wrap (s + 11400714819323198485)
/-- One step of the mix: the number and its shift, exclusive-or, times a constant. -/
def mixI (x k c : Int) : Int := IntKind.u64.wrap (bits BinOp.xor IntKind.u64 x (x / k) * c)
def lastI (x : Int) : Int := bits BinOp.xor IntKind.u64 x (x / 2147483648)
/-- The next number. -/
def zI (s : Int) : Int := lastI (mixI (mixI (sI s) 1073741824 13787848793156543929) 134217728 10723151780598845931)
set_option maxHeartbeats 1000000 in
theorem next_any (s : Int) (w : World) :
    Calls Try.prog 10 #[.int .u64 s] w fun e w' => e = .returned (.tuple #[.int .u64 (zI s), .int .u64 (sI s)]) ∧ w = w' := by
  go_enter Try.func10, Try.ntmps10
  go_wp2
  go_returns
  exact ⟨rfl, rfl⟩
theorem dv1 (y : Int) : IntKind.u64.wrap ((IntKind.u64.wrap y).tdiv 1073741824) = IntKind.u64.wrap y / 1073741824 := by
  rw [IntKind.wrap_u64, IntKind.wrap_u64, Int.tdiv_eq_ediv_of_nonneg (by omega)]; omega
theorem dv2 (y : Int) : IntKind.u64.wrap ((IntKind.u64.wrap y).tdiv 134217728) = IntKind.u64.wrap y / 134217728 := by
  rw [IntKind.wrap_u64, IntKind.wrap_u64, Int.tdiv_eq_ediv_of_nonneg (by omega)]; omega
theorem dv3 (y : Int) : IntKind.u64.wrap ((IntKind.u64.wrap y).tdiv 2147483648) = IntKind.u64.wrap y / 2147483648 := by
  rw [IntKind.wrap_u64, IntKind.wrap_u64, Int.tdiv_eq_ediv_of_nonneg (by omega)]; omega
/-- The same numbers as the reference says them: with divisions. -/
def mixR (x k c : Int) : Int := IntKind.u64.wrap (bits BinOp.xor IntKind.u64 x (IntKind.u64.wrap (x.tdiv k)) * c)
def lastR (x : Int) : Int := bits BinOp.xor IntKind.u64 x (IntKind.u64.wrap (x.tdiv 2147483648))
def zR (s : Int) : Int := lastR (mixR (mixR (sI s) 1073741824 13787848793156543929) 134217728 10723151780598845931)
theorem zR_eq (s : Int) : zR s = zI s := by
  unfold zR zI
  have e1 : mixR (sI s) 1073741824 13787848793156543929 = mixI (sI s) 1073741824 13787848793156543929 := by unfold mixR mixI sI; rw [dv1]
  rw [e1]
  have e2 : ∀ y, mixR (mixI y 1073741824 13787848793156543929) 134217728 10723151780598845931 = mixI (mixI y 1073741824 13787848793156543929) 134217728 10723151780598845931 := by
    intro y
    unfold mixR
    unfold mixI
    rw [dv2]
  rw [e2]
  unfold lastR lastI
  conv => lhs; unfold mixI
  conv => rhs; unfold mixI
  rw [dv3]
set_option maxRecDepth 4000 in
set_option maxHeartbeats 1000000 in
theorem rNext_R (s : Int) (w : World) :
    Calls Try.prog 11 #[.int .u64 s] w fun e w' => e = .returned (.tuple #[.int .u64 (zR s), .int .u64 (sI s)]) ∧ w = w' := by
  go_enter Try.func11, Try.ntmps11
  go_wp2
  go_returns
  exact ⟨rfl, rfl⟩
theorem rNext_any (s : Int) (w : World) :
    Calls Try.prog 11 #[.int .u64 s] w fun e w' => e = .returned (.tuple #[.int .u64 (zI s), .int .u64 (sI s)]) ∧ w = w' := zR_eq s ▸ rNext_R s w
/-! ### The numbers lie in the kind's range -/
theorem sI_bound (s : Int) : 0 ≤ sI s ∧ sI s < 18446744073709551616 := by unfold sI; rw [IntKind.wrap_u64]; omega
theorem mixI_bound (x k c : Int) : 0 ≤ mixI x k c ∧ mixI x k c < 18446744073709551616 := by unfold mixI; rw [IntKind.wrap_u64]; omega
theorem lastI_nat {x : Int} (h0 : 0 ≤ x) (h1 : x < 18446744073709551616) : lastI x = ((x.toNat ^^^ x.toNat / 2147483648 : Nat) : Int) := by
  obtain ⟨n, rfl⟩ := Int.eq_ofNat_of_zero_le h0
  exact xorShift_u64 n 2147483648 (by omega)
theorem mixI_nat {x : Int} (k C : Nat) (h0 : 0 ≤ x) (h1 : x < 18446744073709551616) : mixI x k C = (((x.toNat ^^^ x.toNat / k) * C % 18446744073709551616 : Nat) : Int) := by
  obtain ⟨n, rfl⟩ := Int.eq_ofNat_of_zero_le h0
  exact mixStep_u64 n k C (by omega)
theorem zI_bound (s : Int) : 0 ≤ zI s ∧ zI s < 18446744073709551616 := by
  unfold zI
  obtain ⟨h0, h1⟩ := mixI_bound (mixI (sI s) 1073741824 13787848793156543929) 134217728 10723151780598845931
  rw [lastI_nat h0 h1]
  generalize mixI (mixI (sI s) 1073741824 13787848793156543929) 134217728 10723151780598845931 = x at *
  have : x.toNat ^^^ x.toNat / 2147483648 < 2 ^ 64 := Nat.xor_lt_two_pow (by omega) (Nat.lt_of_le_of_lt (Nat.div_le_self _ _) (by omega))
  omega
/-! ### Different states give different numbers -/
/-- A number with its own shift, exclusive-or: the shift by three times as much leaves nothing. -/
theorem xs_inj (k : Nat) {x y : Nat} (hx : x < 2 ^ (3 * k)) (hy : y < 2 ^ (3 * k)) (h : x ^^^ x / 2 ^ k = y ^^^ y / 2 ^ k) : x = y := by
  have inv : ∀ z : Nat, z < 2 ^ (3 * k) → (z ^^^ z >>> k) ^^^ (z ^^^ z >>> k) >>> k ^^^ (z ^^^ z >>> k) >>> (k + k) = z := by
    intro z hz
    have z3 : z >>> (k + k + k) = 0 := by
      rw [Nat.shiftRight_eq_div_pow]
      exact Nat.div_eq_of_lt (by rwa [show k + k + k = 3 * k by omega])
    apply Nat.eq_of_testBit_eq
    intro i
    have t3 : z.testBit (k + (k + (k + i))) = false := by
      have := congrArg (fun n => Nat.testBit n i) z3
      simpa [Nat.testBit_shiftRight, Nat.add_assoc] using this
    simp only [Nat.testBit_xor, Nat.testBit_shiftRight]
    rw [show k + k + i = k + (k + i) by omega, t3]
    cases z.testBit i <;> cases z.testBit (k + i) <;> cases z.testBit (k + (k + i)) <;> rfl
  rw [← Nat.shiftRight_eq_div_pow, ← Nat.shiftRight_eq_div_pow] at h
  rw [← inv x hx, ← inv y hy, h]
theorem mul_inj (C D : Nat) (hCD : C * D % 18446744073709551616 = 1) {x y : Nat} (hx : x < 18446744073709551616) (hy : y < 18446744073709551616) (h : x * C % 18446744073709551616 = y * C % 18446744073709551616) : x = y := by
  have k : ∀ z : Nat, z < 18446744073709551616 → z * C % 18446744073709551616 * D % 18446744073709551616 = z := by
    intro z hz
    rw [Nat.mod_mul_mod, Nat.mul_assoc, Nat.mul_mod, hCD, Nat.mul_one, Nat.mod_mod, Nat.mod_eq_of_lt hz]
  rw [← k x hx, ← k y hy, h]
end Go.Proofs.Ythbhhodlggkegaa
