/- Plain facts about masks of bits: no program is named here. -/
namespace Go.Proofs.Ytimgjlogbkgiaaa

/-- The number whose bit i is set if c i holds, for the i below k. -/
def maskN (c : Nat → Bool) : Nat → Nat
  | 0 => 0
  | k + 1 => maskN c k + if c k then 2 ^ k else 0

theorem maskN_lt (c : Nat → Bool) (k : Nat) : maskN c k < 2 ^ k := by
  induction k with
  | zero => simp [maskN]
  | succ k ih =>
    unfold maskN
    rw [Nat.pow_succ]
    split <;> omega
theorem maskN_or (c : Nat → Bool) (k : Nat) (h : c k = true) : maskN c k ||| 2 ^ k = maskN c (k + 1) := by
  have := maskN_lt c k
  rw [Nat.or_comm]
  have h2 := Nat.two_pow_add_eq_or_of_lt this 1
  simp only [Nat.mul_one] at h2
  rw [← h2]
  simp only [maskN, h, if_true]
  omega
theorem maskN_skip (c : Nat → Bool) (k : Nat) (h : c k = false) : maskN c k = maskN c (k + 1) := by
  simp [maskN, h]
theorem maskN_bit (c : Nat → Bool) (k i : Nat) : (maskN c k).testBit i = (decide (i < k) && c i) := by
  induction k with
  | zero => simp [maskN]
  | succ k ih =>
    cases h : c k with
    | false =>
      rw [← maskN_skip c k h, ih]
      by_cases hi : i = k
      · subst hi; simp [h]
      · have : (i < k + 1) = (i < k) := by simp; omega
        simp [this]
    | true =>
      rw [← maskN_or c k h, Nat.testBit_or, ih, Nat.testBit_two_pow]
      by_cases hi : i = k
      · subst hi; simp [h]
      · have : (i < k + 1) = (i < k) := by simp; omega
        have h2 : (decide (k = i)) = false := by simp; omega
        simp [this, h2]
theorem maskN_congr {c d : Nat → Bool} {k : Nat} (h : ∀ i, i < k → c i = d i) : maskN c k = maskN d k := by
  induction k with
  | zero => rfl
  | succ k ih =>
    unfold maskN
    rw [ih fun i hi => h i (by omega), h k (by omega)]
theorem maskN_zero {c : Nat → Bool} {k : Nat} (h : ∀ i, i < k → c i = false) : maskN c k = 0 := by
  induction k with
  | zero => rfl
  | succ k ih =>
    unfold maskN
    rw [ih fun i hi => h i (by omega), h k (by omega)]
    rfl
theorem maskN_pos {c : Nat → Bool} {k : Nat} (h : maskN c k ≠ 0) : ∃ i, i < k ∧ c i = true := by
  by_cases hx : ∃ i, i < k ∧ c i = true
  · exact hx
  · refine absurd (maskN_zero fun i hi => ?_) h
    cases hc : c i with
    | false => rfl
    | true => exact absurd ⟨i, hi, hc⟩ hx
theorem maskN_split {c d e : Nat → Bool} {k : Nat} (h : ∀ i, i < k → c i = (d i || e i)) : maskN d k ||| maskN e k = maskN c k := by
  apply Nat.eq_of_testBit_eq
  intro i
  rw [Nat.testBit_or, maskN_bit, maskN_bit, maskN_bit]
  by_cases hi : i < k
  · simp [hi, h i hi]
  · simp [hi]
theorem maskN_apart {d e : Nat → Bool} {k : Nat} (h : ∀ i, i < k → (d i && e i) = false) : maskN d k &&& maskN e k = 0 := by
  apply Nat.eq_of_testBit_eq
  intro i
  rw [Nat.testBit_and, maskN_bit, maskN_bit]
  by_cases hi : i < k
  · have := h i hi
    simp [hi]
    simpa using this
  · simp [hi]

end Go.Proofs.Ytimgjlogbkgiaaa
