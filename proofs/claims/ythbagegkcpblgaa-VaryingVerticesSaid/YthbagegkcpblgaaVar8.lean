/- small, limited and at of the law's package of chapter 37. -/
import Derived.Test.YthbagegkcpblgaaVar7
namespace Go.Proofs.Ythbagegkcpblgaa
open Go.RowKit
def smallB (x : Int) : Bool := decide (-268435455 ≤ x) && decide (x ≤ 268435455)
theorem small_at (x : Int) (b : Bool) (h : smallB x = b) (w : World) : Calls Try.prog 26 #[.int .i64 x] w fun e w' => e = .returned (.bool b) ∧ w = w' := by
  unfold smallB at h
  by_cases h0 : -268435455 ≤ x
  · by_cases h1 : x ≤ 268435455
    · rw [decide_eq_true h0, decide_eq_true h1] at h
      subst h
      go_enter Try.func26, Try.ntmps26
      go_wp2
      go_ret
      exact ⟨rfl, rfl⟩
    · rw [decide_eq_false h1, Bool.and_false] at h
      subst h
      have h1' := decide_eq_false h1
      clear h1
      go_enter Try.func26, Try.ntmps26
      go_wp2
      go_ret
      exact ⟨rfl, rfl⟩
  · rw [decide_eq_false h0, Bool.false_and] at h
    subst h
    have h0' : x < -268435455 := by omega
    clear h0
    go_enter Try.func26, Try.ntmps26
    go_wp2
    go_ret
    exact ⟨rfl, rfl⟩
theorem limited_at (x v : Int) (h : sat x = v) (w : World) : Calls Try.prog 28 #[.int .i64 x] w fun e w' => e = .returned (.int .i64 v) ∧ w = w' := by
  unfold sat at h
  obtain ⟨y, hy⟩ : ∃ y, (if x < 536870911 then x else 536870911) = y := ⟨_, rfl⟩
  have hz : (if -536870911 < y then y else -536870911) = v := by omega
  clear h
  go_enter Try.func28, Try.ntmps28
  go_wp2
  go_ret
  exact ⟨rfl, rfl⟩
set_option maxHeartbeats 8000000 in
theorem at_0 (x0 y0 z0 u0 x1 y1 z1 u1 x2 y2 z2 u2 : Int) (A0 A1 A2 : Option Addr) (n0 c0 n1 c1 n2 c2 : Nat) (pr : Int) (fr : Bool) (w : World) (f : Nat → Int) (k : Nat) (v : Int) (hn : n0 ≤ 17592186043904) (hk : k ≤ 17592186043904) (hv : compI n0 f k = v) (h : Sl w A0 n0 c0 f) :
    Calls Try.prog 27 #[.agg #[.int .i64 x0, .int .i64 y0, .int .i64 z0, .int .i64 u0, .slice A0 n0 c0, .int .i64 x1, .int .i64 y1, .int .i64 z1, .int .i64 u1, .slice A1 n1 c1, .int .i64 x2, .int .i64 y2, .int .i64 z2, .int .i64 u2, .slice A2 n2 c2, .int .i64 pr, .bool fr], .int .i64 0, .int .i64 (k : Int)] w fun e w' => e = .returned (.int .i64 v) ∧ Below w.heap.size w w' := by
  have k0 : (0 : Int) ≤ k := by omega
  have k1 : (k : Int) ≤ 17592186043904 := by omega
  have n1' : (n0 : Int) ≤ 17592186043904 := by omega
  have hB : Hid (Below w.heap.size w (w.alloc (.cells #[.int .i64 x0, .int .i64 y0, .int .i64 z0, .int .i64 u0, .slice A0 n0 c0, .int .i64 x1, .int .i64 y1, .int .i64 z1, .int .i64 u1, .slice A1 n1 c1, .int .i64 x2, .int .i64 y2, .int .i64 z2, .int .i64 u2, .slice A2 n2 c2, .int .i64 pr, .bool fr] 27))) := Lib.hid (by go_grown)
  have hk' := Lib.hid (Blk.new w 27 #[.int .i64 x0, .int .i64 y0, .int .i64 z0, .int .i64 u0, .slice A0 n0 c0, .int .i64 x1, .int .i64 y1, .int .i64 z1, .int .i64 u1, .slice A1 n1 c1, .int .i64 x2, .int .i64 y2, .int .i64 z2, .int .i64 u2, .slice A2 n2 c2, .int .i64 pr, .bool fr])
  replace h := h.alloc (.cells #[.int .i64 x0, .int .i64 y0, .int .i64 z0, .int .i64 u0, .slice A0 n0 c0, .int .i64 x1, .int .i64 y1, .int .i64 z1, .int .i64 u1, .slice A1 n1 c1, .int .i64 x2, .int .i64 y2, .int .i64 z2, .int .i64 u2, .slice A2 n2 c2, .int .i64 pr, .bool fr] 27)
  unfold compI at hv
  by_cases hlt : k < n0
  · rw [if_pos hlt] at hv
    obtain ⟨a, rfl, -, hc⟩ := h.get hlt
    rw [hv] at hc
    have hlt' : (k : Int) < n0 := by omega
    have ck := hk'.out.cell
    go_enter Try.func27, Try.ntmps27
    go_wp2
    go_ret
    exact ⟨rfl, hB.out⟩
  · rw [if_neg hlt] at hv
    subst hv
    have hge : (n0 : Int) ≤ k := by omega
    have ck := hk'.out.cell
    go_enter Try.func27, Try.ntmps27
    go_wp2
    go_ret
    exact ⟨rfl, hB.out⟩
set_option maxHeartbeats 8000000 in
theorem at_1 (x0 y0 z0 u0 x1 y1 z1 u1 x2 y2 z2 u2 : Int) (A0 A1 A2 : Option Addr) (n0 c0 n1 c1 n2 c2 : Nat) (pr : Int) (fr : Bool) (w : World) (f : Nat → Int) (k : Nat) (v : Int) (hn : n1 ≤ 17592186043904) (hk : k ≤ 17592186043904) (hv : compI n1 f k = v) (h : Sl w A1 n1 c1 f) :
    Calls Try.prog 27 #[.agg #[.int .i64 x0, .int .i64 y0, .int .i64 z0, .int .i64 u0, .slice A0 n0 c0, .int .i64 x1, .int .i64 y1, .int .i64 z1, .int .i64 u1, .slice A1 n1 c1, .int .i64 x2, .int .i64 y2, .int .i64 z2, .int .i64 u2, .slice A2 n2 c2, .int .i64 pr, .bool fr], .int .i64 1, .int .i64 (k : Int)] w fun e w' => e = .returned (.int .i64 v) ∧ Below w.heap.size w w' := by
  have k0 : (0 : Int) ≤ k := by omega
  have k1 : (k : Int) ≤ 17592186043904 := by omega
  have n1' : (n1 : Int) ≤ 17592186043904 := by omega
  have hB : Hid (Below w.heap.size w (w.alloc (.cells #[.int .i64 x0, .int .i64 y0, .int .i64 z0, .int .i64 u0, .slice A0 n0 c0, .int .i64 x1, .int .i64 y1, .int .i64 z1, .int .i64 u1, .slice A1 n1 c1, .int .i64 x2, .int .i64 y2, .int .i64 z2, .int .i64 u2, .slice A2 n2 c2, .int .i64 pr, .bool fr] 27))) := Lib.hid (by go_grown)
  have hk' := Lib.hid (Blk.new w 27 #[.int .i64 x0, .int .i64 y0, .int .i64 z0, .int .i64 u0, .slice A0 n0 c0, .int .i64 x1, .int .i64 y1, .int .i64 z1, .int .i64 u1, .slice A1 n1 c1, .int .i64 x2, .int .i64 y2, .int .i64 z2, .int .i64 u2, .slice A2 n2 c2, .int .i64 pr, .bool fr])
  replace h := h.alloc (.cells #[.int .i64 x0, .int .i64 y0, .int .i64 z0, .int .i64 u0, .slice A0 n0 c0, .int .i64 x1, .int .i64 y1, .int .i64 z1, .int .i64 u1, .slice A1 n1 c1, .int .i64 x2, .int .i64 y2, .int .i64 z2, .int .i64 u2, .slice A2 n2 c2, .int .i64 pr, .bool fr] 27)
  unfold compI at hv
  by_cases hlt : k < n1
  · rw [if_pos hlt] at hv
    obtain ⟨a, rfl, -, hc⟩ := h.get hlt
    rw [hv] at hc
    have hlt' : (k : Int) < n1 := by omega
    have ck := hk'.out.cell
    go_enter Try.func27, Try.ntmps27
    go_wp2
    go_ret
    exact ⟨rfl, hB.out⟩
  · rw [if_neg hlt] at hv
    subst hv
    have hge : (n1 : Int) ≤ k := by omega
    have ck := hk'.out.cell
    go_enter Try.func27, Try.ntmps27
    go_wp2
    go_ret
    exact ⟨rfl, hB.out⟩
set_option maxHeartbeats 8000000 in
theorem at_2 (x0 y0 z0 u0 x1 y1 z1 u1 x2 y2 z2 u2 : Int) (A0 A1 A2 : Option Addr) (n0 c0 n1 c1 n2 c2 : Nat) (pr : Int) (fr : Bool) (w : World) (f : Nat → Int) (k : Nat) (v : Int) (hn : n2 ≤ 17592186043904) (hk : k ≤ 17592186043904) (hv : compI n2 f k = v) (h : Sl w A2 n2 c2 f) :
    Calls Try.prog 27 #[.agg #[.int .i64 x0, .int .i64 y0, .int .i64 z0, .int .i64 u0, .slice A0 n0 c0, .int .i64 x1, .int .i64 y1, .int .i64 z1, .int .i64 u1, .slice A1 n1 c1, .int .i64 x2, .int .i64 y2, .int .i64 z2, .int .i64 u2, .slice A2 n2 c2, .int .i64 pr, .bool fr], .int .i64 2, .int .i64 (k : Int)] w fun e w' => e = .returned (.int .i64 v) ∧ Below w.heap.size w w' := by
  have k0 : (0 : Int) ≤ k := by omega
  have k1 : (k : Int) ≤ 17592186043904 := by omega
  have n1' : (n2 : Int) ≤ 17592186043904 := by omega
  have hB : Hid (Below w.heap.size w (w.alloc (.cells #[.int .i64 x0, .int .i64 y0, .int .i64 z0, .int .i64 u0, .slice A0 n0 c0, .int .i64 x1, .int .i64 y1, .int .i64 z1, .int .i64 u1, .slice A1 n1 c1, .int .i64 x2, .int .i64 y2, .int .i64 z2, .int .i64 u2, .slice A2 n2 c2, .int .i64 pr, .bool fr] 27))) := Lib.hid (by go_grown)
  have hk' := Lib.hid (Blk.new w 27 #[.int .i64 x0, .int .i64 y0, .int .i64 z0, .int .i64 u0, .slice A0 n0 c0, .int .i64 x1, .int .i64 y1, .int .i64 z1, .int .i64 u1, .slice A1 n1 c1, .int .i64 x2, .int .i64 y2, .int .i64 z2, .int .i64 u2, .slice A2 n2 c2, .int .i64 pr, .bool fr])
  replace h := h.alloc (.cells #[.int .i64 x0, .int .i64 y0, .int .i64 z0, .int .i64 u0, .slice A0 n0 c0, .int .i64 x1, .int .i64 y1, .int .i64 z1, .int .i64 u1, .slice A1 n1 c1, .int .i64 x2, .int .i64 y2, .int .i64 z2, .int .i64 u2, .slice A2 n2 c2, .int .i64 pr, .bool fr] 27)
  unfold compI at hv
  by_cases hlt : k < n2
  · rw [if_pos hlt] at hv
    obtain ⟨a, rfl, -, hc⟩ := h.get hlt
    rw [hv] at hc
    have hlt' : (k : Int) < n2 := by omega
    have ck := hk'.out.cell
    go_enter Try.func27, Try.ntmps27
    go_wp2
    go_ret
    exact ⟨rfl, hB.out⟩
  · rw [if_neg hlt] at hv
    subst hv
    have hge : (n2 : Int) ≤ k := by omega
    have ck := hk'.out.cell
    go_enter Try.func27, Try.ntmps27
    go_wp2
    go_ret
    exact ⟨rfl, hB.out⟩
end Go.Proofs.Ythbagegkcpblgaa
