/- Weights, ratios and depths at the vertices of a valid triangle. -/
import Derived.Test.YthbagegkcpblgaaVar8
import Derived.Test.YthbagegkcpblgaaVWLaw
namespace Go.Proofs.Ythbagegkcpblgaa
open Go.RowKit
theorem rat_one {s : Int} (h0 : 0 < s) (h1 : s ≤ 9007199254740992) : ratio s s = 65536 := ratio_one h0 (by unfold big; omega)
/-- The weights at the three vertices. -/
theorem vert_wt {x0 y0 x1 y1 x2 y2 : Int} (h : validB x0 y0 x1 y1 x2 y2 = true) : ∃ s, 0 < s ∧ s ≤ 536870912 ∧
    (max 0 (wtI (validB x0 y0 x1 y1 x2 y2) x1 y1 x2 y2 x0 y0) = s ∧ max 0 (wtI (validB x0 y0 x1 y1 x2 y2) x2 y2 x0 y0 x0 y0) = 0 ∧ max 0 (wtI (validB x0 y0 x1 y1 x2 y2) x0 y0 x1 y1 x0 y0) = 0) ∧
    (max 0 (wtI (validB x0 y0 x1 y1 x2 y2) x1 y1 x2 y2 x1 y1) = 0 ∧ max 0 (wtI (validB x0 y0 x1 y1 x2 y2) x2 y2 x0 y0 x1 y1) = s ∧ max 0 (wtI (validB x0 y0 x1 y1 x2 y2) x0 y0 x1 y1 x1 y1) = 0) ∧
    (max 0 (wtI (validB x0 y0 x1 y1 x2 y2) x1 y1 x2 y2 x2 y2) = 0 ∧ max 0 (wtI (validB x0 y0 x1 y1 x2 y2) x2 y2 x0 y0 x2 y2) = 0 ∧ max 0 (wtI (validB x0 y0 x1 y1 x2 y2) x0 y0 x1 y1 x2 y2) = s) := by
  have hv := (validB_iff ..).1 h
  have pos : 0 < efI x0 y0 x1 y1 x2 y2 := by
    obtain ⟨⟨⟨a1, a2, a3, a4⟩, ⟨a5, a6, a7, a8⟩, ⟨a9, a10, a11, a12⟩⟩, hp⟩ := hv
    unfold efI ef
    rw [lim_id a1 a2, lim_id a3 a4, lim_id a5 a6, lim_id a7 a8, lim_id a9 a10, lim_id a11 a12]
    exact hp
  have at0 : ∀ a b c d, efI a b c d a b = 0 := fun a b c d => by unfold efI; exact ef_at0 ..
  have at1 : ∀ a b c d, efI a b c d c d = 0 := fun a b c d => by unfold efI; exact ef_at1 ..
  have rot : ∀ a b c d e f, efI c d e f a b = efI a b c d e f := fun a b c d e f => by unfold efI; exact ef_rot ..
  have bd := efI_bound x0 y0 x1 y1 x2 y2
  have e0 : efI x1 y1 x2 y2 x0 y0 = efI x0 y0 x1 y1 x2 y2 := rot x0 y0 x1 y1 x2 y2
  have e1 : efI x2 y2 x0 y0 x1 y1 = efI x0 y0 x1 y1 x2 y2 := (rot x1 y1 x2 y2 x0 y0).trans e0
  rw [h]
  unfold wtI
  simp only [if_true, at0, at1, e0, e1]
  exact ⟨efI x0 y0 x1 y1 x2 y2, pos, bd.2, by omega, by omega, by omega⟩
theorem vert_pres0 {s k : Int} (h0 : 0 < s) (h1 : s ≤ 536870912) : PRes s 0 0 (s * clampI k 0 16777216) 0 0 65536 0 := by
  have d := pb_bd k (Int.le_of_lt h0) h1
  unfold PRes
  simp only [Int.add_zero]
  by_cases e : s * clampI k 0 16777216 = 0
  · exact .inl ⟨e, trivial, trivial, rat_one h0 (by omega), ratio_zero _⟩
  · exact .inr ⟨fun h => e h.1, rat_one (by omega) d.2, ratio_zero _⟩
theorem vert_pres1 {s k : Int} (h0 : 0 < s) (h1 : s ≤ 536870912) : PRes 0 s 0 0 (s * clampI k 0 16777216) 0 0 65536 := by
  have d := pb_bd k (Int.le_of_lt h0) h1
  unfold PRes
  simp only [Int.add_zero, Int.zero_add]
  by_cases e : s * clampI k 0 16777216 = 0
  · exact .inl ⟨trivial, e, trivial, ratio_zero _, rat_one h0 (by omega)⟩
  · exact .inr ⟨fun h => e h.2.1, ratio_zero _, rat_one (by omega) d.2⟩
theorem vert_pres2 {s k : Int} : PRes 0 0 s 0 0 (s * clampI k 0 16777216) 0 0 := by
  unfold PRes
  by_cases e : s * clampI k 0 16777216 = 0
  · exact .inl ⟨rfl, rfl, e, ratio_zero _, ratio_zero _⟩
  · exact .inr ⟨fun h => e h.2.2, ratio_zero _, ratio_zero _⟩
theorem vert_lin0 (x0 y0 z0 u0 x1 y1 z1 u1 x2 y2 z2 u2 : Int) (A0 A1 A2 : Option Addr) (n0 c0 n1 c1 n2 c2 : Nat) (pr : Int) (fr : Bool) (hv : validB x0 y0 x1 y1 x2 y2 = true) (w : World) :
    Calls Try.prog 17 #[.agg #[.int .i64 x0, .int .i64 y0, .int .i64 z0, .int .i64 u0, .slice A0 n0 c0, .int .i64 x1, .int .i64 y1, .int .i64 z1, .int .i64 u1, .slice A1 n1 c1, .int .i64 x2, .int .i64 y2, .int .i64 z2, .int .i64 u2, .slice A2 n2 c2, .int .i64 pr, .bool fr], .int .i64 x0, .int .i64 y0] w fun e w' => e = .returned (.agg #[.int .i64 65536, .int .i64 0]) ∧ Below w.heap.size w w' := by
  obtain ⟨s, hs⟩ := vert_wt hv
  have c := hs.2.2.1
  exact linear_at x0 y0 z0 u0 x1 y1 z1 u1 x2 y2 z2 u2 A0 A1 A2 n0 c0 n1 c1 n2 c2 pr fr x0 y0 w s 0 0 c.1 c.2.1 c.2.2 65536 0 (by simp only [Int.add_zero]; exact rat_one hs.1 (by have := hs.2.1; omega)) (ratio_zero _)
theorem vert_per0 (x0 y0 z0 u0 x1 y1 z1 u1 x2 y2 z2 u2 : Int) (A0 A1 A2 : Option Addr) (n0 c0 n1 c1 n2 c2 : Nat) (pr : Int) (fr : Bool) (hv : validB x0 y0 x1 y1 x2 y2 = true) (w : World) :
    Calls Try.prog 19 #[.agg #[.int .i64 x0, .int .i64 y0, .int .i64 z0, .int .i64 u0, .slice A0 n0 c0, .int .i64 x1, .int .i64 y1, .int .i64 z1, .int .i64 u1, .slice A1 n1 c1, .int .i64 x2, .int .i64 y2, .int .i64 z2, .int .i64 u2, .slice A2 n2 c2, .int .i64 pr, .bool fr], .int .i64 x0, .int .i64 y0] w fun e w' => e = .returned (.agg #[.int .i64 65536, .int .i64 0]) ∧ Below w.heap.size w w' := by
  obtain ⟨s, hs⟩ := vert_wt hv
  have c := hs.2.2.1
  exact persp_at x0 y0 z0 u0 x1 y1 z1 u1 x2 y2 z2 u2 A0 A1 A2 n0 c0 n1 c1 n2 c2 pr fr x0 y0 w s 0 0 c.1 c.2.1 c.2.2 (s * clampI u0 0 16777216) 0 0 rfl (Int.zero_mul _) (Int.zero_mul _) 65536 0 (vert_pres0 hs.1 hs.2.1)
theorem vert_dep0 (x0 y0 z0 u0 x1 y1 z1 u1 x2 y2 z2 u2 : Int) (A0 A1 A2 : Option Addr) (n0 c0 n1 c1 n2 c2 : Nat) (pr : Int) (fr : Bool) (hv : validB x0 y0 x1 y1 x2 y2 = true) (hs0 : small z0) (_hs1 : small z1) (hs2 : small z2) (d : Int) (hd : clampI z0 0 65536 = d) (w : World) :
    Calls Try.prog 21 #[.agg #[.int .i64 x0, .int .i64 y0, .int .i64 z0, .int .i64 u0, .slice A0 n0 c0, .int .i64 x1, .int .i64 y1, .int .i64 z1, .int .i64 u1, .slice A1 n1 c1, .int .i64 x2, .int .i64 y2, .int .i64 z2, .int .i64 u2, .slice A2 n2 c2, .int .i64 pr, .bool fr], .int .i64 x0, .int .i64 y0] w fun e w' => e = .returned (.int .i64 d) ∧ Below w.heap.size w w' := by
  obtain ⟨s, hs⟩ := vert_wt hv
  have c := hs.2.2.1
  exact depth_yes x0 y0 z0 u0 x1 y1 z1 u1 x2 y2 z2 u2 A0 A1 A2 n0 c0 n1 c1 n2 c2 pr fr x0 y0 w s 0 0 c.1 c.2.1 c.2.2 65536 0 (by simp only [Int.add_zero]; exact rat_one hs.1 (by have := hs.2.1; omega)) (ratio_zero _) d (by rw [mix_first hs0 hs2]; exact hd) hv
theorem vert_lin1 (x0 y0 z0 u0 x1 y1 z1 u1 x2 y2 z2 u2 : Int) (A0 A1 A2 : Option Addr) (n0 c0 n1 c1 n2 c2 : Nat) (pr : Int) (fr : Bool) (hv : validB x0 y0 x1 y1 x2 y2 = true) (w : World) :
    Calls Try.prog 17 #[.agg #[.int .i64 x0, .int .i64 y0, .int .i64 z0, .int .i64 u0, .slice A0 n0 c0, .int .i64 x1, .int .i64 y1, .int .i64 z1, .int .i64 u1, .slice A1 n1 c1, .int .i64 x2, .int .i64 y2, .int .i64 z2, .int .i64 u2, .slice A2 n2 c2, .int .i64 pr, .bool fr], .int .i64 x1, .int .i64 y1] w fun e w' => e = .returned (.agg #[.int .i64 0, .int .i64 65536]) ∧ Below w.heap.size w w' := by
  obtain ⟨s, hs⟩ := vert_wt hv
  have c := hs.2.2.2.1
  exact linear_at x0 y0 z0 u0 x1 y1 z1 u1 x2 y2 z2 u2 A0 A1 A2 n0 c0 n1 c1 n2 c2 pr fr x1 y1 w 0 s 0 c.1 c.2.1 c.2.2 0 65536 (ratio_zero _) (by simp only [Int.add_zero, Int.zero_add]; exact rat_one hs.1 (by have := hs.2.1; omega))
theorem vert_per1 (x0 y0 z0 u0 x1 y1 z1 u1 x2 y2 z2 u2 : Int) (A0 A1 A2 : Option Addr) (n0 c0 n1 c1 n2 c2 : Nat) (pr : Int) (fr : Bool) (hv : validB x0 y0 x1 y1 x2 y2 = true) (w : World) :
    Calls Try.prog 19 #[.agg #[.int .i64 x0, .int .i64 y0, .int .i64 z0, .int .i64 u0, .slice A0 n0 c0, .int .i64 x1, .int .i64 y1, .int .i64 z1, .int .i64 u1, .slice A1 n1 c1, .int .i64 x2, .int .i64 y2, .int .i64 z2, .int .i64 u2, .slice A2 n2 c2, .int .i64 pr, .bool fr], .int .i64 x1, .int .i64 y1] w fun e w' => e = .returned (.agg #[.int .i64 0, .int .i64 65536]) ∧ Below w.heap.size w w' := by
  obtain ⟨s, hs⟩ := vert_wt hv
  have c := hs.2.2.2.1
  exact persp_at x0 y0 z0 u0 x1 y1 z1 u1 x2 y2 z2 u2 A0 A1 A2 n0 c0 n1 c1 n2 c2 pr fr x1 y1 w 0 s 0 c.1 c.2.1 c.2.2 0 (s * clampI u1 0 16777216) 0 (Int.zero_mul _) rfl (Int.zero_mul _) 0 65536 (vert_pres1 hs.1 hs.2.1)
theorem vert_dep1 (x0 y0 z0 u0 x1 y1 z1 u1 x2 y2 z2 u2 : Int) (A0 A1 A2 : Option Addr) (n0 c0 n1 c1 n2 c2 : Nat) (pr : Int) (fr : Bool) (hv : validB x0 y0 x1 y1 x2 y2 = true) (_hs0 : small z0) (hs1 : small z1) (hs2 : small z2) (d : Int) (hd : clampI z1 0 65536 = d) (w : World) :
    Calls Try.prog 21 #[.agg #[.int .i64 x0, .int .i64 y0, .int .i64 z0, .int .i64 u0, .slice A0 n0 c0, .int .i64 x1, .int .i64 y1, .int .i64 z1, .int .i64 u1, .slice A1 n1 c1, .int .i64 x2, .int .i64 y2, .int .i64 z2, .int .i64 u2, .slice A2 n2 c2, .int .i64 pr, .bool fr], .int .i64 x1, .int .i64 y1] w fun e w' => e = .returned (.int .i64 d) ∧ Below w.heap.size w w' := by
  obtain ⟨s, hs⟩ := vert_wt hv
  have c := hs.2.2.2.1
  exact depth_yes x0 y0 z0 u0 x1 y1 z1 u1 x2 y2 z2 u2 A0 A1 A2 n0 c0 n1 c1 n2 c2 pr fr x1 y1 w 0 s 0 c.1 c.2.1 c.2.2 0 65536 (ratio_zero _) (by simp only [Int.add_zero, Int.zero_add]; exact rat_one hs.1 (by have := hs.2.1; omega)) d (by rw [mix_second hs1 hs2]; exact hd) hv
theorem vert_lin2 (x0 y0 z0 u0 x1 y1 z1 u1 x2 y2 z2 u2 : Int) (A0 A1 A2 : Option Addr) (n0 c0 n1 c1 n2 c2 : Nat) (pr : Int) (fr : Bool) (hv : validB x0 y0 x1 y1 x2 y2 = true) (w : World) :
    Calls Try.prog 17 #[.agg #[.int .i64 x0, .int .i64 y0, .int .i64 z0, .int .i64 u0, .slice A0 n0 c0, .int .i64 x1, .int .i64 y1, .int .i64 z1, .int .i64 u1, .slice A1 n1 c1, .int .i64 x2, .int .i64 y2, .int .i64 z2, .int .i64 u2, .slice A2 n2 c2, .int .i64 pr, .bool fr], .int .i64 x2, .int .i64 y2] w fun e w' => e = .returned (.agg #[.int .i64 0, .int .i64 0]) ∧ Below w.heap.size w w' := by
  obtain ⟨s, hs⟩ := vert_wt hv
  have c := hs.2.2.2.2
  exact linear_at x0 y0 z0 u0 x1 y1 z1 u1 x2 y2 z2 u2 A0 A1 A2 n0 c0 n1 c1 n2 c2 pr fr x2 y2 w 0 0 s c.1 c.2.1 c.2.2 0 0 (ratio_zero _) (ratio_zero _)
theorem vert_per2 (x0 y0 z0 u0 x1 y1 z1 u1 x2 y2 z2 u2 : Int) (A0 A1 A2 : Option Addr) (n0 c0 n1 c1 n2 c2 : Nat) (pr : Int) (fr : Bool) (hv : validB x0 y0 x1 y1 x2 y2 = true) (w : World) :
    Calls Try.prog 19 #[.agg #[.int .i64 x0, .int .i64 y0, .int .i64 z0, .int .i64 u0, .slice A0 n0 c0, .int .i64 x1, .int .i64 y1, .int .i64 z1, .int .i64 u1, .slice A1 n1 c1, .int .i64 x2, .int .i64 y2, .int .i64 z2, .int .i64 u2, .slice A2 n2 c2, .int .i64 pr, .bool fr], .int .i64 x2, .int .i64 y2] w fun e w' => e = .returned (.agg #[.int .i64 0, .int .i64 0]) ∧ Below w.heap.size w w' := by
  obtain ⟨s, hs⟩ := vert_wt hv
  have c := hs.2.2.2.2
  exact persp_at x0 y0 z0 u0 x1 y1 z1 u1 x2 y2 z2 u2 A0 A1 A2 n0 c0 n1 c1 n2 c2 pr fr x2 y2 w 0 0 s c.1 c.2.1 c.2.2 0 0 (s * clampI u2 0 16777216) (Int.zero_mul _) (Int.zero_mul _) rfl 0 0 vert_pres2
theorem vert_dep2 (x0 y0 z0 u0 x1 y1 z1 u1 x2 y2 z2 u2 : Int) (A0 A1 A2 : Option Addr) (n0 c0 n1 c1 n2 c2 : Nat) (pr : Int) (fr : Bool) (hv : validB x0 y0 x1 y1 x2 y2 = true) (_hs0 : small z0) (_hs1 : small z1) (hs2 : small z2) (d : Int) (hd : clampI z2 0 65536 = d) (w : World) :
    Calls Try.prog 21 #[.agg #[.int .i64 x0, .int .i64 y0, .int .i64 z0, .int .i64 u0, .slice A0 n0 c0, .int .i64 x1, .int .i64 y1, .int .i64 z1, .int .i64 u1, .slice A1 n1 c1, .int .i64 x2, .int .i64 y2, .int .i64 z2, .int .i64 u2, .slice A2 n2 c2, .int .i64 pr, .bool fr], .int .i64 x2, .int .i64 y2] w fun e w' => e = .returned (.int .i64 d) ∧ Below w.heap.size w w' := by
  obtain ⟨s, hs⟩ := vert_wt hv
  have c := hs.2.2.2.2
  exact depth_yes x0 y0 z0 u0 x1 y1 z1 u1 x2 y2 z2 u2 A0 A1 A2 n0 c0 n1 c1 n2 c2 pr fr x2 y2 w 0 0 s c.1 c.2.1 c.2.2 0 0 (ratio_zero _) (ratio_zero _) d (by rw [mix_third hs2]; exact hd) hv
end Go.Proofs.Ythbagegkcpblgaa
