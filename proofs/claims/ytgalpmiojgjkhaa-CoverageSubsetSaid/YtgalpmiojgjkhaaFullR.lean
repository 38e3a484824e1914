/- Full of the reference of chapter 35. -/
import Derived.Test.YtgalpmiojgjkhaaCEx
import Derived.Test.YtgalpmiojgjkhaaSampR
namespace Go.Proofs.Ytgalpmiojgjkhaa
open Go.RowKit
theorem full_len (n : Int) : fullI n = ((2 ^ (posL n).length : Nat) : Int) - 1 := by
  by_cases h1 : n = 1
  · subst h1; rfl
  by_cases h2 : n = 2
  · subst h2; rfl
  by_cases h4 : n = 4
  · subst h4; rfl
  by_cases h8 : n = 8
  · subst h8; rfl
  have q1 : (n == 1) = false := by simpa using h1
  have q2 : (n == 2) = false := by simpa using h2
  have q4 : (n == 4) = false := by simpa using h4
  have q8 : (n == 8) = false := by simpa using h8
  rw [posL_none q1 q2 q4 q8]
  unfold fullI vsB
  rw [q1, q2, q4, q8]
  rfl
set_option maxHeartbeats 8000000 in
theorem rFull_any (n : Int) (w : World) :
    Calls Try.prog 23 #[.int .i64 n] w fun e w' => e = .returned (.int .i64 (fullI n)) ∧ Below w.heap.size w w' := by
  have hf := full_len n
  have hl := posL_len n
  have hlen := rPos_len n
  generalize (posL n).length = L at *
  replace hf := Lib.hid hf
  replace hlen := Lib.hid hlen
  go_enter Try.func23, Try.ntmps23
  go_wp2_with fail
  go_loopw [3, 4] (fun m i wr => ∃ k : Nat, k ≤ L ∧ i = .int .i64 k ∧ m = .int .i64 (((2 ^ k : Nat) : Int) - 1) ∧ Below w.heap.size w wr)
    (fun _ i _ => L - (intOf i).toNat)
  case atStart => exact ⟨0, by omega, rfl, rfl, Below.refl _ _⟩
  case round =>
    obtain ⟨j, hj, rfl, rfl, hB⟩ := hrel
    replace hB := Lib.hid hB
    have hj0 : (0 : Int) ≤ j := by omega
    have hp2 : 2 ^ j ≤ 256 := Nat.pow_le_pow_right (n := 2) (by omega) (show j ≤ 8 by omega)
    have hpw : 2 ^ (j + 1) = 2 ^ j * 2 := Nat.pow_succ ..
    go_wp2_with fail
    refine (hlen.out _).mono ?_
    rintro e W1 ⟨⟨A, rfl⟩, hb⟩
    replace hB := Lib.hid (below_on hB.out hb)
    clear hb
    by_cases hlt : j < L
    · have hlt' : (j : Int) < L := by omega
      replace hpw := Lib.hid hpw
      generalize hq : 2 ^ j = q at *
      replace hq := Lib.hid hq
      have hw1 : IntKind.i64.wrap (2 * ((q : Int) - 1)) = 2 * ((q : Int) - 1) := by rw [IntKind.wrap_i64]; omega
      have hw2 : IntKind.i64.wrap (2 * ((q : Int) - 1) + 1) = 2 * ((q : Int) - 1) + 1 := by rw [IntKind.wrap_i64]; omega
      go_wp2
      go_roundw
      case rel => exact ⟨j + 1, by omega, by go_num, by rw [hpw.out]; congr 1; omega, hB.out⟩
      case measure => simp [intOf]; omega
    · have he : j = L := by omega
      have hlt' : (L : Int) ≤ j := by omega
      go_wp2
      go_ret
      exact ⟨ret_int (by first | rw [hf.out, he] | (rw [hf.out]; simp)), hB.out⟩
end Go.Proofs.Ytgalpmiojgjkhaa
