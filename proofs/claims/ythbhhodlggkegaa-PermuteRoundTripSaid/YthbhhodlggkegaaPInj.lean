/- Different states give different numbers. -/
import Derived.Test.YthbhhodlggkegaaPNext
namespace Go.Proofs.Ythbhhodlggkegaa
open Go.RowKit
theorem mix1_nat {x : Int} (h0 : 0 ≤ x) (h1 : x < 18446744073709551616) : mixI x 1073741824 13787848793156543929 = (((x.toNat ^^^ x.toNat / 1073741824) * 13787848793156543929 % 18446744073709551616 : Nat) : Int) := mixI_nat 1073741824 13787848793156543929 h0 h1
theorem mix2_nat {x : Int} (h0 : 0 ≤ x) (h1 : x < 18446744073709551616) : mixI x 134217728 10723151780598845931 = (((x.toNat ^^^ x.toNat / 134217728) * 10723151780598845931 % 18446744073709551616 : Nat) : Int) := mixI_nat 134217728 10723151780598845931 h0 h1
theorem xs_lt {n k : Nat} (h : n < 18446744073709551616) : n ^^^ n / k < 18446744073709551616 := Nat.xor_lt_two_pow (n := 64) h (Nat.lt_of_le_of_lt (Nat.div_le_self _ _) h)
theorem mix1_inj {x y : Int} (h0 : 0 ≤ x) (h1 : x < 18446744073709551616) (g0 : 0 ≤ y) (g1 : y < 18446744073709551616) (h : mixI x 1073741824 13787848793156543929 = mixI y 1073741824 13787848793156543929) : x = y := by
  have hx : x.toNat < 18446744073709551616 := by clear h; omega
  have hy : y.toNat < 18446744073709551616 := by clear h; omega
  rw [mix1_nat h0 h1, mix1_nat g0 g1, Int.ofNat_inj] at h
  have := mul_inj 13787848793156543929 10871156337175269513 (by decide +kernel) (xs_lt hx) (xs_lt hy) h
  have := xs_inj 30 (Nat.lt_of_lt_of_le hx (by decide +kernel)) (Nat.lt_of_lt_of_le hy (by decide +kernel)) this
  clear h
  omega
theorem mix2_inj {x y : Int} (h0 : 0 ≤ x) (h1 : x < 18446744073709551616) (g0 : 0 ≤ y) (g1 : y < 18446744073709551616) (h : mixI x 134217728 10723151780598845931 = mixI y 134217728 10723151780598845931) : x = y := by
  have hx : x.toNat < 18446744073709551616 := by clear h; omega
  have hy : y.toNat < 18446744073709551616 := by clear h; omega
  rw [mix2_nat h0 h1, mix2_nat g0 g1, Int.ofNat_inj] at h
  have := mul_inj 10723151780598845931 3573116690164977347 (by decide +kernel) (xs_lt hx) (xs_lt hy) h
  have := xs_inj 27 (Nat.lt_of_lt_of_le hx (by decide +kernel)) (Nat.lt_of_lt_of_le hy (by decide +kernel)) this
  clear h
  omega
theorem last_inj {x y : Int} (h0 : 0 ≤ x) (h1 : x < 18446744073709551616) (g0 : 0 ≤ y) (g1 : y < 18446744073709551616) (h : lastI x = lastI y) : x = y := by
  rw [lastI_nat h0 h1, lastI_nat g0 g1, Int.ofNat_inj] at h
  have hx : x.toNat < 18446744073709551616 := by omega
  have hy : y.toNat < 18446744073709551616 := by omega
  have := xs_inj 31 (Nat.lt_of_lt_of_le hx (by decide +kernel)) (Nat.lt_of_lt_of_le hy (by decide +kernel)) h
  omega
theorem zI_inj {a b : Int} (a0 : 0 ≤ a) (a1 : a < 18446744073709551616) (b0 : 0 ≤ b) (b1 : b < 18446744073709551616) (h : zI a = zI b) : a = b := by
  unfold zI at h
  have m1 := mixI_bound (mixI (sI a) 1073741824 13787848793156543929) 134217728 10723151780598845931
  have m2 := mixI_bound (mixI (sI b) 1073741824 13787848793156543929) 134217728 10723151780598845931
  have n1 := mixI_bound (sI a) 1073741824 13787848793156543929
  have n2 := mixI_bound (sI b) 1073741824 13787848793156543929
  have s1 := sI_bound a
  have s2 := sI_bound b
  have h := mix1_inj s1.1 s1.2 s2.1 s2.2 (mix2_inj n1.1 n1.2 n2.1 n2.2 (last_inj m1.1 m1.2 m2.1 m2.2 h))
  unfold sI at h
  rw [IntKind.wrap_u64, IntKind.wrap_u64] at h
  omega
theorem sI_sub {a : Int} (a0 : 0 ≤ a ∧ a < 18446744073709551616) : IntKind.u64.wrap (sI a - a) = 11400714819323198485 := by
  unfold sI
  rw [IntKind.wrap_u64, IntKind.wrap_u64]
  have := a0.1
  omega
theorem next_at (s z t : Int) (w : World) (h : zI s = z) (h' : sI s = t) :
    Calls Try.prog 10 #[.int .u64 s] w fun e w' => e = .returned (.tuple #[.int .u64 z, .int .u64 t]) ∧ w = w' := by
  subst h h'
  exact next_any s w
theorem u64_range {a : Int} (h : (Lit.int .u64 a).wf = true) : 0 ≤ a ∧ a < 18446744073709551616 := by
  have e1 : IntKind.u64.min = 0 := by decide
  have e2 : IntKind.u64.max = 18446744073709551615 := by decide
  simp [Lit.wf, e1, e2] at h
  omega
end Go.Proofs.Ythbhhodlggkegaa
