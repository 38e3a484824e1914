/- Counting: a list is a permutation exactly if each number below its length occurs once. -/
import Derived.Test.YthbhhodlggkegaaRIsP
import Derived.Test.YthbhhodlggkegaaInvC
namespace Go.Proofs.Ythbhhodlggkegaa
open Go.RowKit
/-- The counts of the numbers below x, added up. -/
def sumC (f : Nat → Int) (m : Nat) : Nat → Nat
  | 0 => 0
  | x + 1 => sumC f m x + cntN f (x : Int) m
theorem sumC_zero (f : Nat → Int) : ∀ x, sumC f 0 x = 0
  | 0 => rfl
  | x + 1 => by unfold sumC; rw [sumC_zero f x]; rfl
theorem sumC_step (f : Nat → Int) (m : Nat) : ∀ x : Nat, sumC f (m + 1) x = sumC f m x + if 0 ≤ f m ∧ f m < (x : Int) then 1 else 0
  | 0 => by
    unfold sumC
    rw [if_neg (by omega)]
  | x + 1 => by
    have h := sumC_step f m x
    have e : cntN f (x : Int) (m + 1) = cntN f (x : Int) m + if f m = (x : Int) then 1 else 0 := rfl
    unfold sumC
    rw [h, e]
    by_cases c1 : f m = (x : Int)
    · rw [if_pos c1, if_neg (by omega), if_pos (by omega)]; omega
    · rw [if_neg c1]
      by_cases c2 : 0 ≤ f m ∧ f m < (x : Int)
      · rw [if_pos c2, if_pos (by omega)]; omega
      · rw [if_neg c2, if_neg (by omega)]; omega
theorem sumC_le (f : Nat → Int) (x : Nat) : ∀ m, sumC f m x ≤ m
  | 0 => by rw [sumC_zero]; omega
  | m + 1 => by rw [sumC_step]; have := sumC_le f x m; split <;> omega
theorem sumC_all (f : Nat → Int) (x : Nat) : ∀ m, (∀ i, i < m → 0 ≤ f i ∧ f i < (x : Int)) → sumC f m x = m
  | 0, _ => by rw [sumC_zero]
  | m + 1, h => by rw [sumC_step, sumC_all f x m (fun i hi => h i (by omega)), if_pos (h m (by omega))]
theorem sumC_lt (f : Nat → Int) (x : Nat) : ∀ m i, i < m → ¬ (0 ≤ f i ∧ f i < (x : Int)) → sumC f m x < m
  | 0, i, hi, _ => absurd hi (Nat.not_lt_zero i)
  | m + 1, i, hi, h => by
    rw [sumC_step]
    have h1 := sumC_le f x m
    by_cases e : i = m
    · subst e; rw [if_neg h]; omega
    · have := sumC_lt f x m i (by omega) h
      split <;> omega
theorem sumC_ones (f : Nat → Int) (m : Nat) : ∀ x, (∀ y : Nat, y < x → cntN f (y : Int) m = 1) → sumC f m x = x
  | 0, _ => rfl
  | x + 1, h => by unfold sumC; rw [sumC_ones f m x (fun y hy => h y (by omega)), h x (by omega)]
theorem sumC_bound (f : Nat → Int) (m : Nat) : ∀ x, (∀ y : Nat, y < x → cntN f (y : Int) m ≤ 1) → sumC f m x ≤ x
  | 0, _ => Nat.le_refl _
  | x + 1, h => by unfold sumC; have := sumC_bound f m x (fun y hy => h y (by omega)); have := h x (by omega); omega
theorem ones_of_sumC (f : Nat → Int) (m : Nat) : ∀ x, (∀ y : Nat, y < x → cntN f (y : Int) m ≤ 1) → sumC f m x = x → ∀ y : Nat, y < x → cntN f (y : Int) m = 1
  | 0, _, _, y, hy => absurd hy (Nat.not_lt_zero y)
  | x + 1, h, hs, y, hy => by
    unfold sumC at hs
    have h1 := sumC_bound f m x (fun y hy => h y (by omega))
    have h2 := h x (by omega)
    by_cases e : y = x
    · subst e; omega
    · exact ones_of_sumC f m x (fun y hy => h y (by omega)) (by omega) y (by omega)
theorem cnt_ex (f : Nat → Int) (x : Int) : ∀ m, 1 ≤ cntN f x m → ∃ i, i < m ∧ f i = x
  | 0, h => by unfold cntN at h; omega
  | m + 1, h => by
    by_cases e : f m = x
    · exact ⟨m, by omega, e⟩
    · unfold cntN at h
      rw [if_neg e] at h
      obtain ⟨i, hi, he⟩ := cnt_ex f x m (by omega)
      exact ⟨i, by omega, he⟩
theorem cnt_le_one (f : Nat → Int) (x : Int) : ∀ m, (∀ i j, i < m → j < m → f i = f j → i = j) → cntN f x m ≤ 1
  | 0, _ => by unfold cntN; omega
  | m + 1, h => by
    have h1 := cnt_le_one f x m (fun i j hi hj => h i j (by omega) (by omega))
    unfold cntN
    by_cases e : f m = x
    · rw [if_pos e]
      rcases Nat.lt_or_ge (cntN f x m) 1 with h2 | h2
      · omega
      · obtain ⟨i, hi, he⟩ := cnt_ex f x m h2
        have := h i m (by omega) (by omega) (he.trans e.symm)
        omega
    · rw [if_neg e]; omega
theorem cnt_ge (f : Nat → Int) (x : Int) : ∀ m i, i < m → f i = x → 1 ≤ cntN f x m
  | 0, i, hi, _ => absurd hi (Nat.not_lt_zero i)
  | m + 1, i, hi, he => by
    unfold cntN
    by_cases e : i = m
    · subst e; rw [if_pos he]; omega
    · have := cnt_ge f x m i (by omega) he; omega
theorem cnt_ge_two (f : Nat → Int) (x : Int) : ∀ m i j, i < j → j < m → f i = x → f j = x → 2 ≤ cntN f x m
  | 0, i, j, _, hj, _, _ => absurd hj (Nat.not_lt_zero j)
  | m + 1, i, j, hij, hj, hi, he => by
    unfold cntN
    by_cases e : j = m
    · subst e; have := cnt_ge f x j i hij hi; rw [if_pos he]; omega
    · have := cnt_ge_two f x m i j hij (by omega) hi he; omega
theorem once_of_isP {n : Nat} {f : Nat → Int} (h : IsP n f) : onceB n f = true :=
  onceB_yes (ones_of_sumC f n n (fun y _ => cnt_le_one f (y : Int) n h.inj) (sumC_all f n n h.rng))
theorem once_sp {n : Nat} {f : Nat → Int} (h : onceB n f = true) : ∀ x : Nat, x < n → cntN f (x : Int) n = 1 := by
  unfold onceB at h
  simpa using h
theorem isP_of_once {n : Nat} {f : Nat → Int} (h : onceB n f = true) : IsP n f := by
  have h1 := once_sp h
  have rng : ∀ i, i < n → 0 ≤ f i ∧ f i < (n : Int) := fun i hi => by
    by_cases c : 0 ≤ f i ∧ f i < (n : Int)
    · exact c
    · have := sumC_lt f n n i hi c
      have := sumC_ones f n n h1
      omega
  have key : ∀ i j, i < j → j < n → f i ≠ f j := fun i j hij hj e => by
    obtain ⟨m, hm⟩ : ∃ m : Nat, f j = (m : Int) := ⟨(f j).toNat, by have := rng j hj; omega⟩
    have h2 := cnt_ge_two f (m : Int) n i j hij hj (e.trans hm) hm
    have h3 := h1 m (by have := rng j hj; omega)
    omega
  refine ⟨rng, fun i j hi hj e => ?_⟩
  rcases Nat.lt_trichotomy i j with h2 | h2 | h2
  · exact absurd e (key i j h2 hj)
  · exact h2
  · exact absurd e.symm (key j i h2 hi)
theorem surj_of_once {n : Nat} {f : Nat → Int} (h : onceB n f = true) : Surj n f := fun j hj => cnt_ex f (j : Int) n (by rw [once_sp h j hj]; omega)
theorem once_no_rng {n k : Nat} {f : Nat → Int} (hk : k < n) (h : ¬ (0 ≤ f k ∧ f k < (n : Int))) : onceB n f = false := by
  cases e : onceB n f with
  | false => rfl
  | true => exact absurd ((isP_of_once e).rng k hk) h
theorem once_no_twice {n k i : Nat} {f : Nat → Int} (hk : k < n) (hi : i < k) (h : f i = f k) : onceB n f = false := by
  cases e : onceB n f with
  | false => rfl
  | true => have := (isP_of_once e).inj i k (by omega) hk h; omega
end Go.Proofs.Ythbhhodlggkegaa
