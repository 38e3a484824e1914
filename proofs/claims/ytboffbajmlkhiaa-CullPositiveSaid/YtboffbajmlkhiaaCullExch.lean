/- The walk of the law CullExchange: exchanging two vertices negates the area, rotating keeps it: true for every triangle. -/
import Derived.Test.YtboffbajmlkhiaaCullEx
namespace Go.Proofs.Ytboffbajmlkhiaa
open Go.RowKit
theorem areaI_rot (x0 y0 x1 y1 x2 y2 : Int) : areaI x1 y1 x2 y2 x0 y0 = areaI x0 y0 x1 y1 x2 y2 := by
  have e : inRB x1 y1 x2 y2 x0 y0 = inRB x0 y0 x1 y1 x2 y2 := by unfold inRB; cases onS x0 y0 <;> cases onS x1 y1 <;> cases onS x2 y2 <;> rfl
  unfold areaI
  rw [e]
  split
  · grind
  · rfl
theorem areaI_swap (x0 y0 x1 y1 x2 y2 : Int) : areaI x0 y0 x2 y2 x1 y1 = -areaI x0 y0 x1 y1 x2 y2 := by
  have e : inRB x0 y0 x2 y2 x1 y1 = inRB x0 y0 x1 y1 x2 y2 := by unfold inRB; cases onS x0 y0 <;> cases onS x1 y1 <;> cases onS x2 y2 <;> rfl
  unfold areaI
  rw [e]
  split
  · grind
  · rfl
theorem areaI_swap01 (x0 y0 x1 y1 x2 y2 : Int) : areaI x1 y1 x0 y0 x2 y2 = -areaI x0 y0 x1 y1 x2 y2 := by
  rw [← areaI_rot x1 y1 x0 y0 x2 y2, areaI_swap]
theorem areaI_swap02 (x0 y0 x1 y1 x2 y2 : Int) : areaI x2 y2 x1 y1 x0 y0 = -areaI x0 y0 x1 y1 x2 y2 := by
  rw [← areaI_rot x2 y2 x1 y1 x0 y0, ← areaI_rot x1 y1 x0 y0 x2 y2, areaI_swap]
theorem area_at (x0 y0 z0 u0 x1 y1 z1 u1 x2 y2 z2 u2 : Int) (A0 A1 A2 : Option Addr) (n0 c0 n1 c1 n2 c2 : Nat) (w : World) (v : Int) (h : areaI x0 y0 x1 y1 x2 y2 = v) :
    Calls Try.prog 11 #[.agg #[.int .i64 x0, .int .i64 y0, .int .i64 z0, .int .i64 u0, .slice A0 n0 c0, .int .i64 x1, .int .i64 y1, .int .i64 z1, .int .i64 u1, .slice A1 n1 c1, .int .i64 x2, .int .i64 y2, .int .i64 z2, .int .i64 u2, .slice A2 n2 c2]] w
      fun e w' => e = .returned (.int .i64 v) ∧ Below w.heap.size w w' := h ▸ area_any _ _ _ _ _ _ _ _ _ _ _ _ _ _ _ _ _ _ _ _ _ _
set_option maxHeartbeats 4000000 in
theorem law_cullExchange (x0 y0 z0 u0 x1 y1 z1 u1 x2 y2 z2 u2 : Int) (A0 A1 A2 : Option Addr) (n0 c0 n1 c1 n2 c2 : Nat) (w : World) :
    Calls Try.prog 4 #[.agg #[.int .i64 x0, .int .i64 y0, .int .i64 z0, .int .i64 u0, .slice A0 n0 c0, .int .i64 x1, .int .i64 y1, .int .i64 z1, .int .i64 u1, .slice A1 n1 c1, .int .i64 x2, .int .i64 y2, .int .i64 z2, .int .i64 u2, .slice A2 n2 c2]] w fun e w' => e = .returned (.bool true) ∧ Below w.heap.size w w' := by
  obtain ⟨a1, a2⟩ := areaI_bound x0 y0 x1 y1 x2 y2
  have h0 : Hid (areaI x0 y0 x1 y1 x2 y2 = areaI x0 y0 x1 y1 x2 y2) := Lib.hid rfl
  have h1 := Lib.hid (areaI_swap01 x0 y0 x1 y1 x2 y2)
  have h2 := Lib.hid (areaI_swap x0 y0 x1 y1 x2 y2)
  have h3 := Lib.hid (areaI_swap02 x0 y0 x1 y1 x2 y2)
  have h4 := Lib.hid (areaI_rot x0 y0 x1 y1 x2 y2)
  obtain ⟨a, ha⟩ : ∃ a, a = areaI x0 y0 x1 y1 x2 y2 := ⟨_, rfl⟩
  rw [← ha] at a1 a2
  have g0 := Lib.hid (h0.out.trans ha.symm)
  have g1 := Lib.hid (h1.out.trans (congrArg (- ·) ha.symm))
  have g2 := Lib.hid (h2.out.trans (congrArg (- ·) ha.symm))
  have g3 := Lib.hid (h3.out.trans (congrArg (- ·) ha.symm))
  have g4 := Lib.hid (h4.out.trans ha.symm)
  clear h0 h1 h2 h3 h4 ha
  have hBw := Lib.hid (Below.refl w.heap.size w)
  go_enter Try.func4, Try.ntmps4
  go_wp2_with fail
  refine (area_at _ _ _ _ _ _ _ _ _ _ _ _ _ _ _ _ _ _ _ _ _ _ _ g0.out).mono ?_
  rintro e w1 ⟨rfl, hb⟩
  obtain ⟨hcw1, _⟩ := bcell hb
  have hzw1 : w.heap.size < w1.heap.size := by (have hq := hb.size; (try simp at hq); omega)
  have hBw1 : Hid (Below w.heap.size w w1) := by (refine Lib.hid (below_on ?_ hb); have hq := hBw.out; go_grown)
  clear hb
  go_wp2_with fail
  refine (area_at _ _ _ _ _ _ _ _ _ _ _ _ _ _ _ _ _ _ _ _ _ _ _ g1.out).mono ?_
  rintro e w2 ⟨rfl, hb⟩
  obtain ⟨hcw2, _⟩ := bcell hb
  have hzw2 : w.heap.size < w2.heap.size := by (have hq := hb.size; (try simp at hq); omega)
  have hBw2 : Hid (Below w.heap.size w w2) := by (refine Lib.hid (below_on ?_ hb); have hq := hBw1.out; go_grown)
  clear hb
  go_wp2_with fail
  refine (area_at _ _ _ _ _ _ _ _ _ _ _ _ _ _ _ _ _ _ _ _ _ _ _ g2.out).mono ?_
  rintro e w3 ⟨rfl, hb⟩
  obtain ⟨hcw3, _⟩ := bcell hb
  have hzw3 : w.heap.size < w3.heap.size := by (have hq := hb.size; (try simp at hq); omega)
  have hBw3 : Hid (Below w.heap.size w w3) := by (refine Lib.hid (below_on ?_ hb); have hq := hBw2.out; go_grown)
  clear hb
  go_wp2_with fail
  refine (area_at _ _ _ _ _ _ _ _ _ _ _ _ _ _ _ _ _ _ _ _ _ _ _ g3.out).mono ?_
  rintro e w4 ⟨rfl, hb⟩
  obtain ⟨hcw4, _⟩ := bcell hb
  have hzw4 : w.heap.size < w4.heap.size := by (have hq := hb.size; (try simp at hq); omega)
  have hBw4 : Hid (Below w.heap.size w w4) := by (refine Lib.hid (below_on ?_ hb); have hq := hBw3.out; go_grown)
  clear hb
  go_wp2_with fail
  refine (area_at _ _ _ _ _ _ _ _ _ _ _ _ _ _ _ _ _ _ _ _ _ _ _ g4.out).mono ?_
  rintro e w5 ⟨rfl, hb⟩
  obtain ⟨hcw5, _⟩ := bcell hb
  have hzw5 : w.heap.size < w5.heap.size := by (have hq := hb.size; (try simp at hq); omega)
  have hBw5 : Hid (Below w.heap.size w w5) := by (refine Lib.hid (below_on ?_ hb); have hq := hBw4.out; go_grown)
  clear hb
  go_wp2_with fail
  refine (example_true _).mono ?_
  rintro e w6 ⟨rfl, hb⟩
  obtain ⟨hcw6, _⟩ := bcell hb
  have hzw6 : w.heap.size < w6.heap.size := by (have hq := hb.size; (try simp at hq); omega)
  have hBw6 : Hid (Below w.heap.size w w6) := by (refine Lib.hid (below_on ?_ hb); have hq := hBw5.out; go_grown)
  clear hb
  go_wp2
  go_ret
  exact ⟨rfl, hBw6.out⟩
end Go.Proofs.Ytboffbajmlkhiaa
