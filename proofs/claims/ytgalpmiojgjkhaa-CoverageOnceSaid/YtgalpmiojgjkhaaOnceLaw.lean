/- CoverageOnce returns true for every triangle, division, pixel and number of samples: the walk's condition holds for all numbers. -/
import Derived.Test.YtgalpmiojgjkhaaLOnce
import Derived.Test.YtgalpmiojgjkhaaPlainOnce
namespace Go.Proofs.Ytgalpmiojgjkhaa
open Go.RowKit
theorem toNat_of {a : Nat} (ha : a < 256) : (BitVec.ofInt 64 (a : Int)).toNat = a := by
  rw [BitVec.ofInt_natCast, BitVec.toNat_ofNat]; exact Nat.mod_eq_of_lt (by omega)
theorem bits_and_n {a b : Nat} (ha : a < 256) (hb : b < 256) : bits .and .i64 (a : Int) (b : Int) = ((a &&& b : Nat) : Int) := by
  have hx : a &&& b < 2 ^ 8 := Nat.and_lt_two_pow _ (by omega)
  show IntKind.i64.wrap ((BitVec.ofInt 64 (a : Int) &&& BitVec.ofInt 64 (b : Int)).toNat : Int) = _
  rw [BitVec.toNat_and, toNat_of ha, toNat_of hb, IntKind.wrap_i64]
  omega
theorem bits_or_n {a b : Nat} (ha : a < 256) (hb : b < 256) : bits .or .i64 (a : Int) (b : Int) = ((a ||| b : Nat) : Int) := by
  have hx : a ||| b < 2 ^ 8 := Nat.or_lt_two_pow (by omega) (by omega)
  show IntKind.i64.wrap ((BitVec.ofInt 64 (a : Int) ||| BitVec.ofInt 64 (b : Int)).toNat : Int) = _
  rw [BitVec.toNat_or, toNat_of ha, toNat_of hb, IntKind.wrap_i64]
  omega
theorem maskN_256 (c : Nat → Bool) (n : Int) : maskN c (posL n).length < 256 := by
  have h1 := maskN_lt c (posL n).length
  have h2 : 2 ^ (posL n).length ≤ 2 ^ 8 := Nat.pow_le_pow_right (by omega) (posL_len n)
  omega
theorem law_coverageOnce (x0 y0 z0 u0 x1 y1 z1 u1 x2 y2 z2 u2 : Int) (A0 A1 A2 : Option Addr) (n0 c0 n1 c1 n2 c2 : Nat) (pr : Int) (fr : Bool) (k x y n : Int) (w : World) :
    Calls Try.prog 4 #[.agg #[.int .i64 x0, .int .i64 y0, .int .i64 z0, .int .i64 u0, .slice A0 n0 c0, .int .i64 x1, .int .i64 y1, .int .i64 z1, .int .i64 u1, .slice A1 n1 c1, .int .i64 x2, .int .i64 y2, .int .i64 z2, .int .i64 u2, .slice A2 n2 c2, .int .i64 pr, .bool fr], .int .i64 k, .int .i64 x, .int .i64 y, .int .i64 n] w fun e w' => e = .returned (.bool true) ∧ Below w.heap.size w w' := by
  cases h : validB x0 y0 x1 y1 x2 y2
  · exact once_no _ _ _ _ _ _ _ _ _ _ _ _ _ _ _ _ _ _ _ _ _ _ _ k x y n w h
  · obtain ⟨⟨⟨a1, a2, a3, a4⟩, ⟨a5, a6, a7, a8⟩, ⟨a9, a10, a11, a12⟩⟩, ha⟩ := (validB_iff ..).1 h
    have wx : IntKind.i64.wrap (x2 - x1) = x2 - x1 := by rw [IntKind.wrap_i64]; omega
    have wy : IntKind.i64.wrap (y2 - y1) = y2 - y1 := by rw [IntKind.wrap_i64]; omega
    obtain ⟨g, hg⟩ : ∃ g, Nat.gcd (x2 - x1).natAbs (y2 - y1).natAbs = g := ⟨_, rfl⟩
    have dvx : (g : Int) ∣ x2 - x1 := Int.ofNat_dvd_left.2 (hg ▸ Nat.gcd_dvd_left _ _)
    have dvy : (g : Int) ∣ y2 - y1 := Int.ofNat_dvd_left.2 (hg ▸ Nat.gcd_dvd_right _ _)
    have tx : Int.tdiv (x2 - x1) g = (x2 - x1) / g := Int.tdiv_eq_ediv_of_dvd dvx
    have ty : Int.tdiv (y2 - y1) g = (y2 - y1) / g := Int.tdiv_eq_ediv_of_dvd dvy
    have nx : (Int.tdiv (x2 - x1) g).natAbs ≤ (x2 - x1).natAbs := by rw [Int.natAbs_tdiv]; exact Nat.div_le_self _ _
    have ny : (Int.tdiv (y2 - y1) g).natAbs ≤ (y2 - y1).natAbs := by rw [Int.natAbs_tdiv]; exact Nat.div_le_self _ _
    refine once_walk _ _ _ _ _ _ _ _ _ _ _ _ _ _ _ _ _ _ _ _ _ _ _ k x y n w (x2 - x1) (y2 - y1) ((x2 - x1) / g) ((y2 - y1) / g) (x1 + (x2 - x1) / g * k) (y1 + (y2 - y1) / g * k)
      (maskI x0 y0 x1 y1 x2 y2 x y n) (maskI x0 y0 x1 y1 (x1 + (x2 - x1) / g * k) (y1 + (y2 - y1) / g * k) x y n) (maskI x0 y0 (x1 + (x2 - x1) / g * k) (y1 + (y2 - y1) / g * k) x2 y2 x y n) g h wx wy (by omega) (by omega) hg ?_
    by_cases c1 : (g : Int) < 2
    · exact .inl c1
    by_cases c2 : k < 1
    · exact .inr (.inl ⟨by omega, c2⟩)
    by_cases c3 : (g : Int) ≤ k
    · exact .inr (.inr (.inl ⟨by omega, by omega, c3⟩))
    have S := once_split dvx dvy (ax := x0) (ay := y0) (show 0 < k by omega) (show k < g by omega)
    have bx := between (show 0 < k by omega) (show 0 < (g : Int) - k by omega) S.x (lo := 0) (hi := 16384) a5 a9 a6 a10
    have by_ := between (show 0 < k by omega) (show 0 < (g : Int) - k by omega) S.y (lo := 0) (hi := 16384) a7 a11 a8 a12
    rw [tx] at nx
    rw [ty] at ny
    obtain ⟨qx, hqx⟩ : ∃ q, (x2 - x1) / (g : Int) = q := ⟨_, rfl⟩
    obtain ⟨qy, hqy⟩ : ∃ q, (y2 - y1) / (g : Int) = q := ⟨_, rfl⟩
    rw [hqx] at S bx nx tx ⊢
    rw [hqy] at S by_ ny ty ⊢
    obtain ⟨mx, hmx⟩ : ∃ m, x1 + qx * k = m := ⟨_, rfl⟩
    obtain ⟨my, hmy⟩ : ∃ m, y1 + qy * k = m := ⟨_, rfl⟩
    rw [hmx] at S bx ⊢
    rw [hmy] at S by_ ⊢
    have e1 := once_abm S ha
    have e2 := once_amc S ha
    have hne : ¬ (x0 = mx ∧ y0 = my) := by
      rintro ⟨r1, r2⟩
      rw [← r1, ← r2, ef_at0] at e1
      omega
    have v1 : validB x0 y0 x1 y1 mx my = true := (validB_iff ..).2 ⟨⟨⟨a1, a2, a3, a4⟩, ⟨a5, a6, a7, a8⟩, ⟨bx.1, bx.2, by_.1, by_.2⟩⟩, e1⟩
    have v2 : validB x0 y0 mx my x2 y2 = true := (validB_iff ..).2 ⟨⟨⟨a1, a2, a3, a4⟩, ⟨bx.1, bx.2, by_.1, by_.2⟩, ⟨a9, a10, a11, a12⟩⟩, e2⟩
    have sp : ∀ i, smB x0 y0 x1 y1 x2 y2 x y n i = (smB x0 y0 x1 y1 mx my x y n i || smB x0 y0 mx my x2 y2 x y n i) ∧ (smB x0 y0 x1 y1 mx my x y n i && smB x0 y0 mx my x2 y2 x y n i) = false := by
      intro i
      unfold smB
      generalize spX x y n i = px
      generalize spY x y n i = py
      have q := cov_split S hne (lim px) (lim py)
      have r0 := covB_iff x0 y0 x1 y1 x2 y2 px py
      have r1 := covB_iff x0 y0 x1 y1 mx my px py
      have r2 := covB_iff x0 y0 mx my x2 y2 px py
      rw [h] at r0
      rw [v1] at r1
      rw [v2] at r2
      simp only [true_and] at r0 r1 r2
      rw [← r0, ← r1, ← r2] at q
      generalize covB x0 y0 x1 y1 x2 y2 px py = b0 at *
      generalize covB x0 y0 x1 y1 mx my px py = b1 at *
      generalize covB x0 y0 mx my x2 y2 px py = b2 at *
      generalize decide (0 ≤ px) = d
      revert q
      clear r0 r1 r2
      cases b0 <;> cases b1 <;> cases b2 <;> cases d <;> simp
    refine .inr (.inr (.inr ⟨by omega, by omega, by omega, tx, ty, ?_, ?_, ?_, ?_, ?_, ?_, Lib.hid v1, Lib.hid v2, Lib.hid rfl, Lib.hid rfl, Lib.hid rfl, ?_, ?_⟩))
    · rw [IntKind.wrap_i64]; omega
    · rw [IntKind.wrap_i64]; omega
    · have : qx * k = mx - x1 := by omega
      rw [this, IntKind.wrap_i64]; omega
    · have : qy * k = my - y1 := by omega
      rw [this, IntKind.wrap_i64]; omega
    · rw [IntKind.wrap_i64]; omega
    · rw [IntKind.wrap_i64]; omega
    · unfold maskI
      rw [bits_and_n (maskN_256 _ n) (maskN_256 _ n), maskN_apart fun i _ => (sp i).2]
      rfl
    · unfold maskI
      rw [bits_or_n (maskN_256 _ n) (maskN_256 _ n), maskN_split fun i _ => (sp i).1]
end Go.Proofs.Ytgalpmiojgjkhaa
