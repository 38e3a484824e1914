/- Mask of package coverage: the bits of the samples that the triangle covers. -/
import Derived.Test.YtgalpmiojgjkhaaSamp
import Derived.Test.YtgalpmiojgjkhaaPlainMask
import Derived.Test.YtgalpmiojgjkhaaCovC
namespace Go.Proofs.Ytgalpmiojgjkhaa
open Go.RowKit
attribute [local go_sem] Ext.cell
/-- Is sample k of the pixel covered? -/
def smB (x0 y0 x1 y1 x2 y2 x y n : Int) (k : Nat) : Bool := decide (0 ≤ spX x y n k) && covB x0 y0 x1 y1 x2 y2 (spX x y n k) (spY x y n k)
def maskI (x0 y0 x1 y1 x2 y2 x y n : Int) : Int := (maskN (smB x0 y0 x1 y1 x2 y2 x y n) (posL n).length : Nat)
theorem orN {m j : Nat} (hm : m < 2 ^ j) (hj : j < 8) : bits .or .i64 (m : Int) (wrap64 (2 ^ j)) = ((m ||| 2 ^ j : Nat) : Int) := by
  have h2 : (2 : Int) ^ j = ((2 ^ j : Nat) : Int) := by simp
  have hp : 2 ^ j ≤ 128 := Nat.pow_le_pow_right (n := 2) (by omega) (show j ≤ 7 by omega)
  have hw : wrap64 (2 ^ j) = ((2 ^ j : Nat) : Int) := by rw [h2]; unfold wrap64; omega
  rw [hw]
  generalize 2 ^ j = b at *
  have hx : m ||| b < 2 ^ 8 := Nat.or_lt_two_pow (by omega) (by omega)
  have h1 : (BitVec.ofInt 64 (m : Int)).toNat = m := by rw [BitVec.ofInt_natCast, BitVec.toNat_ofNat]; exact Nat.mod_eq_of_lt (by omega)
  have h3 : (BitVec.ofInt 64 (b : Int)).toNat = b := by rw [BitVec.ofInt_natCast, BitVec.toNat_ofNat]; exact Nat.mod_eq_of_lt (by omega)
  show IntKind.i64.wrap ((BitVec.ofInt 64 (m : Int) ||| BitVec.ofInt 64 (b : Int)).toNat : Int) = _
  rw [BitVec.toNat_or, h1, h3, IntKind.wrap_i64]
  omega
set_option maxHeartbeats 8000000 in
theorem mask_any (x0 y0 z0 u0 x1 y1 z1 u1 x2 y2 z2 u2 : Int) (A0 A1 A2 : Option Addr) (n0 c0 n1 c1 n2 c2 : Nat) (pr : Int) (fr : Bool) (x y n : Int) (w : World) :
    Calls Try.prog 9 #[.agg #[.int .i64 x0, .int .i64 y0, .int .i64 z0, .int .i64 u0, .slice A0 n0 c0, .int .i64 x1, .int .i64 y1, .int .i64 z1, .int .i64 u1, .slice A1 n1 c1, .int .i64 x2, .int .i64 y2, .int .i64 z2, .int .i64 u2, .slice A2 n2 c2, .int .i64 pr, .bool fr], .int .i64 x, .int .i64 y, .int .i64 n] w fun e w' => e = .returned (.int .i64 (maskI x0 y0 x1 y1 x2 y2 x y n)) ∧ Below w.heap.size w w' := by
  have hm : maskI x0 y0 x1 y1 x2 y2 x y n = (maskN (smB x0 y0 x1 y1 x2 y2 x y n) (posL n).length : Nat) := rfl
  have hl := posL_len n
  have hlen := pos_len n
  generalize (posL n).length = L at *
  obtain ⟨c, hc⟩ : ∃ c, smB x0 y0 x1 y1 x2 y2 x y n = c := ⟨_, rfl⟩
  rw [hc] at hm
  replace hc := Lib.hid hc
  replace hm := Lib.hid hm
  go_enter Try.func9, Try.ntmps9
  have kt := Lib.hid (Blk.new w 27 #[.int .i64 x0, .int .i64 y0, .int .i64 z0, .int .i64 u0, .slice A0 n0 c0, .int .i64 x1, .int .i64 y1, .int .i64 z1, .int .i64 u1, .slice A1 n1 c1, .int .i64 x2, .int .i64 y2, .int .i64 z2, .int .i64 u2, .slice A2 n2 c2, .int .i64 pr, .bool fr])
  have hB : Hid (Below w.heap.size w (w.alloc (.cells #[.int .i64 x0, .int .i64 y0, .int .i64 z0, .int .i64 u0, .slice A0 n0 c0, .int .i64 x1, .int .i64 y1, .int .i64 z1, .int .i64 u1, .slice A1 n1 c1, .int .i64 x2, .int .i64 y2, .int .i64 z2, .int .i64 u2, .slice A2 n2 c2, .int .i64 pr, .bool fr] 27))) := Lib.hid (by go_grown)
  go_wp2_with fail
  refine (hlen _).mono ?_
  rintro e W1 ⟨⟨A, rfl⟩, hb⟩
  replace kt := Lib.hid (kt.out.call hb)
  replace hB := Lib.hid (below_on hB.out hb)
  clear hb hlen
  go_wp2_with fail
  go_loopw [9, 16] (fun m i wr => ∃ k : Nat, k ≤ L ∧ i = .int .i64 k ∧ m = .int .i64 (maskN c k : Nat) ∧ Blk wr w.heap.size 27 #[.int .i64 x0, .int .i64 y0, .int .i64 z0, .int .i64 u0, .slice A0 n0 c0, .int .i64 x1, .int .i64 y1, .int .i64 z1, .int .i64 u1, .slice A1 n1 c1, .int .i64 x2, .int .i64 y2, .int .i64 z2, .int .i64 u2, .slice A2 n2 c2, .int .i64 pr, .bool fr] ∧ Below w.heap.size w wr)
    (fun _ i _ => L - (intOf i).toNat)
  case atStart => exact ⟨0, by omega, rfl, rfl, kt.out, hB.out⟩
  case round =>
    obtain ⟨j, hj, rfl, rfl, kt', hB'⟩ := hrel
    replace kt := Lib.hid kt'
    replace hB := Lib.hid hB'
    clear kt' hB'
    have hj0 : (0 : Int) ≤ j := by omega
    by_cases hlt : j < L
    · have hlt' : (j : Int) < L := by omega
      have hcj : c j = (decide (0 ≤ spX x y n j) && covB x0 y0 x1 y1 x2 y2 (spX x y n j) (spY x y n j)) := by rw [← hc.out]; rfl
      obtain ⟨sx, hsx⟩ : ∃ a, spX x y n j = a := ⟨_, rfl⟩
      obtain ⟨sy, hsy⟩ : ∃ a, spY x y n j = a := ⟨_, rfl⟩
      rw [hsx, hsy] at hcj
      obtain ⟨b, hb0⟩ : ∃ b, covB x0 y0 x1 y1 x2 y2 sx sy = b := ⟨_, rfl⟩
      rw [hb0] at hcj
      replace hsx := Lib.hid hsx
      replace hsy := Lib.hid hsy
      replace hb0 := Lib.hid hb0
      replace hcj := Lib.hid hcj
      go_wp2_with fail
      refine (sample_at _ _ _ _ _ _ _ hsx.out hsy.out).mono ?_
      rintro e W2 ⟨rfl, hb⟩
      replace kt := Lib.hid (kt.out.call hb)
      replace hB := Lib.hid (below_on hB.out hb)
      clear hb
      by_cases hs : 0 ≤ sx
      · go_wp2_with (first | refine wpList_load_rowG rfl 27 _ rfl _ rfl _ _ _ _ kt.out Try.underlying27 rfl triInfo ?_)
        refine (covers_at _ _ _ _ _ _ _ _ _ _ _ _ _ _ _ _ _ _ _ _ _ _ _ _ _ _ _ hb0.out).mono ?_
        rintro e W3 ⟨rfl, hb⟩
        replace kt := Lib.hid (kt.out.call hb)
        replace hB := Lib.hid (below_on hB.out hb)
        clear hb
        have hcj' : c j = b := by rw [hcj.out]; simp [hs]
        cases b
        · go_wp2
          go_roundw
          case rel => exact ⟨j + 1, by omega, by go_num, by rw [maskN_skip c j hcj'], kt.out, hB.out⟩
          case measure => simp [intOf]; omega
        · go_wp2
          go_roundw
          case rel => exact ⟨j + 1, by omega, by go_num, by rw [orN (maskN_lt c j) (by omega), maskN_or c j hcj'], kt.out, hB.out⟩
          case measure => simp [intOf]; omega
      · have hs' : sx < 0 := by omega
        have hcj' : c j = false := by rw [hcj.out]; simp [hs]
        go_wp2
        go_roundw
        case rel => exact ⟨j + 1, by omega, by go_num, by rw [maskN_skip c j hcj'], kt.out, hB.out⟩
        case measure => simp [intOf]; omega
    · have he : j = L := by omega
      have hlt' : (L : Int) ≤ j := by omega
      go_wp2
      go_ret
      exact ⟨ret_int (by rw [hm.out, he]), hB.out⟩
theorem mask_at (x0 y0 z0 u0 x1 y1 z1 u1 x2 y2 z2 u2 : Int) (A0 A1 A2 : Option Addr) (n0 c0 n1 c1 n2 c2 : Nat) (pr : Int) (fr : Bool) (x y n : Int) (w : World) (v : Int) (h : maskI x0 y0 x1 y1 x2 y2 x y n = v) :
    Calls Try.prog 9 #[.agg #[.int .i64 x0, .int .i64 y0, .int .i64 z0, .int .i64 u0, .slice A0 n0 c0, .int .i64 x1, .int .i64 y1, .int .i64 z1, .int .i64 u1, .slice A1 n1 c1, .int .i64 x2, .int .i64 y2, .int .i64 z2, .int .i64 u2, .slice A2 n2 c2, .int .i64 pr, .bool fr], .int .i64 x, .int .i64 y, .int .i64 n] w fun e w' => e = .returned (.int .i64 v) ∧ Below w.heap.size w w' := h ▸ mask_any _ _ _ _ _ _ _ _ _ _ _ _ _ _ _ _ _ _ _ _ _ _ _ _ _ _ _
end Go.Proofs.Ytgalpmiojgjkhaa
