/- Mask of the reference of chapter 35 returns the same bits. -/
import Derived.Test.YtimgjlogbkgiaaaSampR
import Derived.Test.YtimgjlogbkgiaaaMaskD
import Derived.Test.YtimgjlogbkgiaaaCR
namespace Go.Proofs.Ytimgjlogbkgiaaa
open Go.RowKit
attribute [local go_sem] Ext.cell
theorem posL_mem {n : Int} {p : Int × Int} (h : p ∈ posL n) : 0 ≤ p.1 ∧ p.1 ≤ 240 ∧ 0 ≤ p.2 ∧ p.2 ≤ 240 := by
  unfold posL at h
  split at h
  · simp at h; subst h; decide
  · split at h
    · simp at h; rcases h with rfl | rfl <;> decide
    · split at h
      · simp at h; rcases h with rfl | rfl | rfl | rfl <;> decide
      · split at h
        · simp at h; rcases h with rfl | rfl | rfl | rfl | rfl | rfl | rfl | rfl <;> decide
        · cases h
theorem posL_bd (n : Int) (i : Nat) : 0 ≤ ((posL n).getD i (0, 0)).1 ∧ ((posL n).getD i (0, 0)).1 ≤ 240 ∧ 0 ≤ ((posL n).getD i (0, 0)).2 ∧ ((posL n).getD i (0, 0)).2 ≤ 240 := by
  rw [List.getD_eq_getElem?_getD]
  cases h : (posL n)[i]? with
  | none => simp
  | some p => exact posL_mem (List.mem_of_getElem? h)
theorem sp_on {x y n i : Int} (h : 0 ≤ spX x y n i) : onP (spX x y n i) (spY x y n i) := by
  by_cases hs : isS x y n i
  · obtain ⟨e1, e2⟩ := sp_yes hs
    have hb := posL_bd n i.toNat
    obtain ⟨h1, h2, h3, h4, _⟩ := hs
    unfold onP
    rw [e1, e2]
    omega
  · have := (sp_no hs).1
    omega
set_option maxHeartbeats 8000000 in
theorem rMask_any (x0 y0 z0 u0 x1 y1 z1 u1 x2 y2 z2 u2 : Int) (A0 A1 A2 : Option Addr) (n0 c0 n1 c1 n2 c2 : Nat) (pr : Int) (fr : Bool) (x y n : Int) (w : World) :
    Calls Try.prog 23 #[.agg #[.int .i64 x0, .int .i64 y0, .int .i64 z0, .int .i64 u0, .slice A0 n0 c0, .int .i64 x1, .int .i64 y1, .int .i64 z1, .int .i64 u1, .slice A1 n1 c1, .int .i64 x2, .int .i64 y2, .int .i64 z2, .int .i64 u2, .slice A2 n2 c2, .int .i64 pr, .bool fr], .int .i64 x, .int .i64 y, .int .i64 n] w fun e w' => e = .returned (.int .i64 (maskI x0 y0 x1 y1 x2 y2 x y n)) ∧ Below w.heap.size w w' := by
  have hm : maskI x0 y0 x1 y1 x2 y2 x y n = (maskN (smB x0 y0 x1 y1 x2 y2 x y n) (posL n).length : Nat) := rfl
  have hl := posL_len n
  have hlen := rPos_len n
  generalize (posL n).length = L at *
  obtain ⟨c, hc⟩ : ∃ c, smB x0 y0 x1 y1 x2 y2 x y n = c := ⟨_, rfl⟩
  rw [hc] at hm
  replace hc := Lib.hid hc
  replace hm := Lib.hid hm
  replace hlen := Lib.hid hlen
  go_enter Try.func23, Try.ntmps23
  have kt := Lib.hid (Blk.new w 37 #[.int .i64 x0, .int .i64 y0, .int .i64 z0, .int .i64 u0, .slice A0 n0 c0, .int .i64 x1, .int .i64 y1, .int .i64 z1, .int .i64 u1, .slice A1 n1 c1, .int .i64 x2, .int .i64 y2, .int .i64 z2, .int .i64 u2, .slice A2 n2 c2, .int .i64 pr, .bool fr])
  have hB : Hid (Below w.heap.size w (w.alloc (.cells #[.int .i64 x0, .int .i64 y0, .int .i64 z0, .int .i64 u0, .slice A0 n0 c0, .int .i64 x1, .int .i64 y1, .int .i64 z1, .int .i64 u1, .slice A1 n1 c1, .int .i64 x2, .int .i64 y2, .int .i64 z2, .int .i64 u2, .slice A2 n2 c2, .int .i64 pr, .bool fr] 37))) := Lib.hid (by go_grown)
  go_wp2_with fail
  go_loopw [9, 10, 11] (fun m b i wr => ∃ k : Nat, k ≤ L ∧ i = .int .i64 k ∧ m = .int .i64 (maskN c k : Nat) ∧ b = .int .i64 ((2 ^ k : Nat) : Int) ∧ Blk wr w.heap.size 37 #[.int .i64 x0, .int .i64 y0, .int .i64 z0, .int .i64 u0, .slice A0 n0 c0, .int .i64 x1, .int .i64 y1, .int .i64 z1, .int .i64 u1, .slice A1 n1 c1, .int .i64 x2, .int .i64 y2, .int .i64 z2, .int .i64 u2, .slice A2 n2 c2, .int .i64 pr, .bool fr] ∧ Below w.heap.size w wr)
    (fun _ _ i _ => L - (intOf i).toNat)
  case atStart => exact ⟨0, by omega, rfl, rfl, rfl, kt.out, hB.out⟩
  case round =>
    obtain ⟨j, hj, rfl, rfl, rfl, kt', hB'⟩ := hrel
    replace kt := Lib.hid kt'
    replace hB := Lib.hid hB'
    clear kt' hB'
    have hj0 : (0 : Int) ≤ j := by omega
    have hp2 : 2 ^ j ≤ 256 := Nat.pow_le_pow_right (n := 2) (by omega) (show j ≤ 8 by omega)
    have hpw : 2 ^ (j + 1) = 2 ^ j * 2 := Nat.pow_succ ..
    have hmk := maskN_lt c j
    go_wp2_with fail
    refine (hlen.out _).mono ?_
    rintro e W1 ⟨⟨A, rfl⟩, hb⟩
    replace kt := Lib.hid (kt.out.call hb)
    replace hB := Lib.hid (below_on hB.out hb)
    clear hb
    by_cases hlt : j < L
    · have hlt' : (j : Int) < L := by omega
      have hcj : c j = (decide (0 ≤ spX x y n j) && covB x0 y0 x1 y1 x2 y2 (spX x y n j) (spY x y n j)) := by rw [← hc.out]; rfl
      have hon : 0 ≤ spX x y n j → onP (spX x y n j) (spY x y n j) := sp_on
      obtain ⟨sx, hsx⟩ : ∃ a, spX x y n j = a := ⟨_, rfl⟩
      obtain ⟨sy, hsy⟩ : ∃ a, spY x y n j = a := ⟨_, rfl⟩
      rw [hsx, hsy] at hcj hon
      obtain ⟨b, hb0⟩ : ∃ b, covB x0 y0 x1 y1 x2 y2 sx sy = b := ⟨_, rfl⟩
      rw [hb0] at hcj
      replace hsx := Lib.hid hsx
      replace hsy := Lib.hid hsy
      replace hb0 := Lib.hid hb0
      replace hcj := Lib.hid hcj
      replace hon := Lib.hid hon
      replace hpw := Lib.hid hpw
      generalize hq : 2 ^ j = q at *
      generalize hmm : maskN c j = mm at *
      replace hq := Lib.hid hq
      replace hmm := Lib.hid hmm
      have hw1 : IntKind.i64.wrap ((mm : Int) + (q : Int)) = (mm : Int) + q := by rw [IntKind.wrap_i64]; omega
      have hw2 : IntKind.i64.wrap ((q : Int) * 2) = (q : Int) * 2 := by rw [IntKind.wrap_i64]; omega
      go_wp2_with fail
      refine (rSample_at _ _ _ _ _ _ _ hsx.out hsy.out).mono ?_
      rintro e W2 ⟨rfl, hb⟩
      replace kt := Lib.hid (kt.out.call hb)
      replace hB := Lib.hid (below_on hB.out hb)
      clear hb
      by_cases hs : 0 ≤ sx
      · go_wp2_with (first | refine wpList_load_rowG rfl 37 _ rfl _ rfl _ _ _ _ kt.out Try.underlying37 rfl triInfo ?_)
        refine (covers35_at _ _ _ _ _ _ _ _ _ _ _ _ _ _ _ _ _ _ _ _ _ _ _ _ _ _ (hon.out hs) _ hb0.out).mono ?_
        rintro e W3 ⟨rfl, hb⟩
        replace kt := Lib.hid (kt.out.call hb)
        replace hB := Lib.hid (below_on hB.out hb)
        clear hb
        have hcj' : c j = b := by rw [hcj.out]; simp [hs]
        cases b
        · go_wp2
          go_roundw
          case rel => exact ⟨j + 1, by omega, by go_num, by rw [← maskN_skip c j hcj', hmm.out], by rw [hpw.out]; simp, kt.out, hB.out⟩
          case measure => simp [intOf]; omega
        · go_wp2
          go_roundw
          case rel => exact ⟨j + 1, by omega, by go_num, by simp only [maskN, hcj', if_true, hmm.out, hq.out]; simp, by rw [hpw.out]; simp, kt.out, hB.out⟩
          case measure => simp [intOf]; omega
      · have hs' : sx < 0 := by omega
        have hcj' : c j = false := by rw [hcj.out]; simp [hs]
        go_wp2
        go_roundw
        case rel => exact ⟨j + 1, by omega, by go_num, by rw [← maskN_skip c j hcj', hmm.out], by rw [hpw.out]; simp, kt.out, hB.out⟩
        case measure => simp [intOf]; omega
    · have he : j = L := by omega
      have hlt' : (L : Int) ≤ j := by omega
      go_wp2
      go_ret
      exact ⟨ret_int (by first | rw [hm.out, he] | rw [hm.out]), hB.out⟩
theorem rMask_at (x0 y0 z0 u0 x1 y1 z1 u1 x2 y2 z2 u2 : Int) (A0 A1 A2 : Option Addr) (n0 c0 n1 c1 n2 c2 : Nat) (pr : Int) (fr : Bool) (x y n : Int) (w : World) (v : Int) (h : maskI x0 y0 x1 y1 x2 y2 x y n = v) :
    Calls Try.prog 23 #[.agg #[.int .i64 x0, .int .i64 y0, .int .i64 z0, .int .i64 u0, .slice A0 n0 c0, .int .i64 x1, .int .i64 y1, .int .i64 z1, .int .i64 u1, .slice A1 n1 c1, .int .i64 x2, .int .i64 y2, .int .i64 z2, .int .i64 u2, .slice A2 n2 c2, .int .i64 pr, .bool fr], .int .i64 x, .int .i64 y, .int .i64 n] w fun e w' => e = .returned (.int .i64 v) ∧ Below w.heap.size w w' := h ▸ rMask_any _ _ _ _ _ _ _ _ _ _ _ _ _ _ _ _ _ _ _ _ _ _ _ _ _ _ _
end Go.Proofs.Ytimgjlogbkgiaaa
