/- Count, Full and ValidSamples of both packages. -/
import Derived.Test.YtgalpmiojgjkhaaCEx
import Derived.Test.YtgalpmiojgjkhaaPosR
import Derived.Lib.BitFns
namespace Go.Proofs.Ytgalpmiojgjkhaa
open Go.RowKit
set_option maxRecDepth 100000 in
theorem onesCount8_fin (n : Fin 256) (h1 : (n.val : Int) ≤ 255) (w : World) :
    Calls Try.prog 32 #[.int .u8 (n.val : Int)] w fun e w' => e = .returned (.int .i64 (Lib.onesCount n.val : Nat)) ∧ w = w' := by
  have h0 : 0 ≤ (n.val : Int) := by omega
  go_enter Try.func32, Try.ntmps32
  go_wp2
  go_ret
  refine ⟨ret_int ?_, rfl⟩
  clear h0 h1 w
  revert n
  decide +kernel
def cntI (m : Int) : Int := (Lib.onesCount (m % 256).toNat : Nat)
theorem count_any (m : Int) (w : World) :
    Calls Try.prog 20 #[.int .i64 m] w fun e w' => e = .returned (.int .i64 (cntI m)) ∧ w = w' := by
  obtain ⟨n, hn⟩ : ∃ n : Fin 256, m % 256 = (n.val : Int) := ⟨⟨(m % 256).toNat, by omega⟩, by simp only []; omega⟩
  have hc : cntI m = (Lib.onesCount n.val : Nat) := by unfold cntI; rw [hn]; rfl
  have hw : IntKind.u8.wrap m = (n.val : Int) := by rw [IntKind.wrap_u8, hn]
  replace hc := Lib.hid hc
  replace hn := Lib.hid hn
  go_enter Try.func20, Try.ntmps20
  go_wp2_with fail
  refine (onesCount8_fin n (by omega) _).mono ?_
  rintro e w1 ⟨rfl, rfl⟩
  go_wp2
  go_ret
  exact ⟨ret_int hc.out.symm, rfl⟩
theorem bits_and_one (q : Int) : bits .and .i64 q 1 = q % 2 := by
  have h1 : (BitVec.ofInt 64 1).toNat = 1 := by decide
  have h2 : (BitVec.ofInt 64 q).toNat = (q % 18446744073709551616).toNat := by rw [BitVec.toNat_ofInt]; rfl
  show IntKind.i64.wrap ((BitVec.ofInt 64 q &&& BitVec.ofInt 64 1).toNat : Int) = _
  rw [BitVec.toNat_and, h1, h2, Nat.and_one_is_mod, IntKind.wrap_i64]
  omega
theorem oc8 : ∀ n : Fin 256, n.val % 2 + n.val / 2 % 2 + n.val / 4 % 2 + n.val / 8 % 2 + n.val / 16 % 2 + n.val / 32 % 2 + n.val / 64 % 2 + n.val / 128 % 2 = Lib.onesCount n.val := by decide +kernel
def sumB (m : Int) : Nat → Int
  | 0 => 0
  | k + 1 => sumB m k + m / 2 ^ k % 2
theorem cnt_sum (m : Int) : cntI m = sumB m 8 := by
  obtain ⟨n, hn⟩ : ∃ n : Fin 256, m % 256 = (n.val : Int) := ⟨⟨(m % 256).toNat, by omega⟩, by simp only []; omega⟩
  have hc : cntI m = (Lib.onesCount n.val : Nat) := by unfold cntI; rw [hn]; rfl
  rw [hc, ← oc8 n]
  obtain ⟨b, hb⟩ : ∃ b, n.val = b := ⟨_, rfl⟩
  rw [hb] at hn ⊢
  have e0 : m / 2 ^ 0 % 2 = ((b % 2 : Nat) : Int) := by simp only [Int.reducePow]; omega
  have e1 : m / 2 ^ 1 % 2 = ((b / 2 % 2 : Nat) : Int) := by simp only [Int.reducePow]; omega
  have e2 : m / 2 ^ 2 % 2 = ((b / 4 % 2 : Nat) : Int) := by simp only [Int.reducePow]; omega
  have e3 : m / 2 ^ 3 % 2 = ((b / 8 % 2 : Nat) : Int) := by simp only [Int.reducePow]; omega
  have e4 : m / 2 ^ 4 % 2 = ((b / 16 % 2 : Nat) : Int) := by simp only [Int.reducePow]; omega
  have e5 : m / 2 ^ 5 % 2 = ((b / 32 % 2 : Nat) : Int) := by simp only [Int.reducePow]; omega
  have e6 : m / 2 ^ 6 % 2 = ((b / 64 % 2 : Nat) : Int) := by simp only [Int.reducePow]; omega
  have e7 : m / 2 ^ 7 % 2 = ((b / 128 % 2 : Nat) : Int) := by simp only [Int.reducePow]; omega
  simp only [sumB]
  rw [e0, e1, e2, e3, e4, e5, e6, e7]
  clear e0 e1 e2 e3 e4 e5 e6 e7
  generalize b % 2 = a0
  generalize b / 2 % 2 = a1
  generalize b / 4 % 2 = a2
  generalize b / 8 % 2 = a3
  generalize b / 16 % 2 = a4
  generalize b / 32 % 2 = a5
  generalize b / 64 % 2 = a6
  generalize b / 128 % 2 = a7
  omega
set_option maxHeartbeats 4000000 in
theorem rCount_any (m : Int) (w : World) :
    Calls Try.prog 21 #[.int .i64 m] w fun e w' => e = .returned (.int .i64 (cntI m)) ∧ Below w.heap.size w w' := by
  go_enter Try.func21, Try.ntmps21
  go_wp2_with fail
  go_loopw [3, 4] (fun s i wr => ∃ k : Nat, k ≤ 8 ∧ i = .int .i64 k ∧ s = .int .i64 (sumB m k) ∧ 0 ≤ sumB m k ∧ sumB m k ≤ k ∧ Below w.heap.size w wr)
    (fun _ i _ => 8 - (intOf i).toNat)
  case atStart => exact ⟨0, by omega, rfl, rfl, by simp [sumB], by simp [sumB], Below.refl _ _⟩
  case round =>
    obtain ⟨j, hj, rfl, rfl, s0, s1, hB⟩ := hrel
    have HB := Lib.hid hB
    clear hB
    by_cases hlt : j < 8
    · have hlt' : (j : Int) < 8 := by omega
      have b2 := bits_and_one (m / 2 ^ j)
      have r0 : 0 ≤ m / 2 ^ j % 2 ∧ m / 2 ^ j % 2 ≤ 1 := by omega
      go_wp2
      go_roundw
      case rel =>
        refine ⟨j + 1, by omega, by go_num, rfl, ?_, ?_, HB.out⟩
        · show 0 ≤ sumB m j + m / 2 ^ j % 2; omega
        · show sumB m j + m / 2 ^ j % 2 ≤ ((j + 1 : Nat) : Int); omega
      case measure => simp [intOf]; omega
    · have h8 : j = 8 := by omega
      subst h8
      go_wp2
      go_ret
      exact ⟨ret_int (cnt_sum m).symm, HB.out⟩
theorem rCount_at (m : Int) (w : World) (v : Int) (h : cntI m = v) :
    Calls Try.prog 21 #[.int .i64 m] w fun e w' => e = .returned (.int .i64 v) ∧ Below w.heap.size w w' := h ▸ rCount_any m w
theorem rValidSamples_any (n : Int) (w : World) :
    Calls Try.prog 19 #[.int .i64 n] w fun e w' => e = .returned (.bool (vsB n)) ∧ w = w' := by
  have hV : vsB n = ((n == 1) || (n == 2) || (n == 4) || (n == 8)) := rfl
  obtain ⟨b1, e1⟩ : ∃ b, (n == 1) = b := ⟨_, rfl⟩
  obtain ⟨b2, e2⟩ : ∃ b, (n == 2) = b := ⟨_, rfl⟩
  obtain ⟨b4, e4⟩ : ∃ b, (n == 4) = b := ⟨_, rfl⟩
  obtain ⟨b8, e8⟩ : ∃ b, (n == 8) = b := ⟨_, rfl⟩
  rw [e1, e2, e4, e8] at hV
  replace hV := Lib.hid hV
  cases b1 <;> cases b2 <;> cases b4 <;> cases b8
  all_goals
    go_enter Try.func19, Try.ntmps19
    go_wp2
    go_ret
    exact ⟨ret_bool (by simpa using hV.out.symm), rfl⟩
end Go.Proofs.Ytgalpmiojgjkhaa
