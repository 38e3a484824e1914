/- Values at every triangle; at of package varying, center of the reference. -/
import Derived.Test.YthbagegkcpblgaaVar7
namespace Go.Proofs.Ythbagegkcpblgaa
open Go.RowKit
theorem own_base {W : World} {base base' n k : Nat} {t : TypeId} {v : Value} {xs : List Value} (h : W.ownsRow base t k v n xs) (hb : base' ≤ base) : W.ownsRow base' t k v n xs := by
  obtain ⟨h1, h2 | ⟨g, c, cur, e, h3, rest⟩⟩ := h
  · exact ⟨h1, .inl h2⟩
  · exact ⟨h1, .inr ⟨g, c, cur, e, Nat.le_trans hb h3, rest⟩⟩
theorem values_anyo (x0 y0 z0 u0 x1 y1 z1 u1 x2 y2 z2 u2 : Int) (A0 A1 A2 : Option Addr) (n0 c0 n1 c1 n2 c2 : Nat) (pr : Int) (fr : Bool) (px py : Int) (w : World) (hn0 : n0 ≤ 17592186043904) (hn1 : n1 ≤ 17592186043904) (hn2 : n2 ≤ 17592186043904) (f0 f1 f2 : Nat → Int) (k0 : Sl w A0 n0 c0 f0) (k1 : Sl w A1 n1 c1 f1) (k2 : Sl w A2 n2 c2 f2) (r0 r1 : Int) (hP : ∀ w, Calls Try.prog 19 #[.agg #[.int .i64 x0, .int .i64 y0, .int .i64 z0, .int .i64 u0, .slice A0 n0 c0, .int .i64 x1, .int .i64 y1, .int .i64 z1, .int .i64 u1, .slice A1 n1 c1, .int .i64 x2, .int .i64 y2, .int .i64 z2, .int .i64 u2, .slice A2 n2 c2, .int .i64 pr, .bool fr], .int .i64 px, .int .i64 py] w fun e w' => e = .returned (.agg #[.int .i64 r0, .int .i64 r1]) ∧ Below w.heap.size w w') (N : Nat) (hN : (if validB x0 y0 x1 y1 x2 y2 = true then n0 else 0) = N) :
    Calls Try.prog 12 #[.agg #[.int .i64 x0, .int .i64 y0, .int .i64 z0, .int .i64 u0, .slice A0 n0 c0, .int .i64 x1, .int .i64 y1, .int .i64 z1, .int .i64 u1, .slice A1 n1 c1, .int .i64 x2, .int .i64 y2, .int .i64 z2, .int .i64 u2, .slice A2 n2 c2, .int .i64 pr, .bool fr], .int .i64 px, .int .i64 py] w fun e w' => Below w.heap.size w w' ∧ ∃ v, e = .returned v ∧ w'.ownsRow w.heap.size 3 1 v N (intsOf (valsAt r0 r1 n1 n2 f0 f1 f2) N) := by
  cases hv : validB x0 y0 x1 y1 x2 y2 with
  | true =>
    rw [if_pos hv] at hN
    subst hN
    exact values_own x0 y0 z0 u0 x1 y1 z1 u1 x2 y2 z2 u2 A0 A1 A2 n0 c0 n1 c1 n2 c2 pr fr px py w hn0 hn1 hn2 f0 f1 f2 k0 k1 k2 r0 r1 hP hv
  | false =>
    rw [if_neg (by rw [hv]; simp)] at hN
    subst hN
    exact (values_no x0 y0 z0 u0 x1 y1 z1 u1 x2 y2 z2 u2 A0 A1 A2 n0 c0 n1 c1 n2 c2 pr fr px py w hv).mono fun _ _ ⟨h1, h2⟩ => ⟨h2, .slice none 0 0, h1, World.ownsRow_nil _ _ _ _⟩
theorem values_any (x0 y0 z0 u0 x1 y1 z1 u1 x2 y2 z2 u2 : Int) (A0 A1 A2 : Option Addr) (n0 c0 n1 c1 n2 c2 : Nat) (pr : Int) (fr : Bool) (px py : Int) (w : World) (hn0 : n0 ≤ 17592186043904) (hn1 : n1 ≤ 17592186043904) (hn2 : n2 ≤ 17592186043904) (f0 f1 f2 : Nat → Int) (k0 : Sl w A0 n0 c0 f0) (k1 : Sl w A1 n1 c1 f1) (k2 : Sl w A2 n2 c2 f2) (r0 r1 : Int) (hP : ∀ w, Calls Try.prog 19 #[.agg #[.int .i64 x0, .int .i64 y0, .int .i64 z0, .int .i64 u0, .slice A0 n0 c0, .int .i64 x1, .int .i64 y1, .int .i64 z1, .int .i64 u1, .slice A1 n1 c1, .int .i64 x2, .int .i64 y2, .int .i64 z2, .int .i64 u2, .slice A2 n2 c2, .int .i64 pr, .bool fr], .int .i64 px, .int .i64 py] w fun e w' => e = .returned (.agg #[.int .i64 r0, .int .i64 r1]) ∧ Below w.heap.size w w') (N : Nat) (hN : (if validB x0 y0 x1 y1 x2 y2 = true then n0 else 0) = N) :
    Calls Try.prog 12 #[.agg #[.int .i64 x0, .int .i64 y0, .int .i64 z0, .int .i64 u0, .slice A0 n0 c0, .int .i64 x1, .int .i64 y1, .int .i64 z1, .int .i64 u1, .slice A1 n1 c1, .int .i64 x2, .int .i64 y2, .int .i64 z2, .int .i64 u2, .slice A2 n2 c2, .int .i64 pr, .bool fr], .int .i64 px, .int .i64 py] w fun e w' => Below w.heap.size w w' ∧ ∃ A c, e = .returned (.slice A N c) ∧ Sl w' A N c (valsAt r0 r1 n1 n2 f0 f1 f2) ∧ ∀ a, A = some a → w.heap.size ≤ a.block :=
  (values_anyo x0 y0 z0 u0 x1 y1 z1 u1 x2 y2 z2 u2 A0 A1 A2 n0 c0 n1 c1 n2 c2 pr fr px py w hn0 hn1 hn2 f0 f1 f2 k0 k1 k2 r0 r1 hP N hN).mono fun e w' ⟨hb, v, he, ho⟩ => by
    obtain ⟨A, c, rfl, hs, hl⟩ := own_sl ho
    exact ⟨hb, A, c, he, hs, hl⟩
theorem rValues_any (x0 y0 z0 u0 x1 y1 z1 u1 x2 y2 z2 u2 : Int) (A0 A1 A2 : Option Addr) (n0 c0 n1 c1 n2 c2 : Nat) (pr : Int) (fr : Bool) (px py : Int) (w : World) (hn0 : n0 ≤ 17592186043904) (hn1 : n1 ≤ 17592186043904) (hn2 : n2 ≤ 17592186043904) (f0 f1 f2 : Nat → Int) (k0 : Sl w A0 n0 c0 f0) (k1 : Sl w A1 n1 c1 f1) (k2 : Sl w A2 n2 c2 f2) (r0 r1 : Int) (hP : ∀ w, Calls Try.prog 20 #[.agg #[.int .i64 x0, .int .i64 y0, .int .i64 z0, .int .i64 u0, .slice A0 n0 c0, .int .i64 x1, .int .i64 y1, .int .i64 z1, .int .i64 u1, .slice A1 n1 c1, .int .i64 x2, .int .i64 y2, .int .i64 z2, .int .i64 u2, .slice A2 n2 c2, .int .i64 pr, .bool fr], .int .i64 px, .int .i64 py] w fun e w' => e = .returned (.agg #[.int .i64 r0, .int .i64 r1]) ∧ Below w.heap.size w w') (N : Nat) (hN : (if validB x0 y0 x1 y1 x2 y2 = true then n0 else 0) = N) :
    Calls Try.prog 13 #[.agg #[.int .i64 x0, .int .i64 y0, .int .i64 z0, .int .i64 u0, .slice A0 n0 c0, .int .i64 x1, .int .i64 y1, .int .i64 z1, .int .i64 u1, .slice A1 n1 c1, .int .i64 x2, .int .i64 y2, .int .i64 z2, .int .i64 u2, .slice A2 n2 c2, .int .i64 pr, .bool fr], .int .i64 px, .int .i64 py] w fun e w' => Below w.heap.size w w' ∧ ∃ A c, e = .returned (.slice A N c) ∧ Sl w' A N c (valsAt r0 r1 n1 n2 f0 f1 f2) ∧ ∀ a, A = some a → w.heap.size ≤ a.block := by
  cases hv : validB x0 y0 x1 y1 x2 y2 with
  | true =>
    rw [if_pos hv] at hN
    subst hN
    exact rValues_yes x0 y0 z0 u0 x1 y1 z1 u1 x2 y2 z2 u2 A0 A1 A2 n0 c0 n1 c1 n2 c2 pr fr px py w hn0 hn1 hn2 f0 f1 f2 k0 k1 k2 r0 r1 hP hv
  | false =>
    rw [if_neg (by rw [hv]; simp)] at hN
    subst hN
    exact (rValues_no x0 y0 z0 u0 x1 y1 z1 u1 x2 y2 z2 u2 A0 A1 A2 n0 c0 n1 c1 n2 c2 pr fr px py w hv).mono fun _ _ ⟨h1, h2⟩ => ⟨h2, none, 0, h1, Sl.none _ _, nofun⟩
set_option maxHeartbeats 8000000 in
theorem vat_anyo (x0 y0 z0 u0 x1 y1 z1 u1 x2 y2 z2 u2 : Int) (A0 A1 A2 : Option Addr) (n0 c0 n1 c1 n2 c2 : Nat) (pr : Int) (fr : Bool) (x y px py : Int) (hx0 : 0 ≤ x) (hx1 : x ≤ 63) (hy0 : 0 ≤ y) (hy1 : y ≤ 63) (hx : x * 256 + 128 = px) (hy : y * 256 + 128 = py) (w : World) (hn0 : n0 ≤ 17592186043904) (hn1 : n1 ≤ 17592186043904) (hn2 : n2 ≤ 17592186043904) (f0 f1 f2 : Nat → Int) (k0 : Sl w A0 n0 c0 f0) (k1 : Sl w A1 n1 c1 f1) (k2 : Sl w A2 n2 c2 f2) (r0 r1 : Int) (hP : ∀ w, Calls Try.prog 19 #[.agg #[.int .i64 x0, .int .i64 y0, .int .i64 z0, .int .i64 u0, .slice A0 n0 c0, .int .i64 x1, .int .i64 y1, .int .i64 z1, .int .i64 u1, .slice A1 n1 c1, .int .i64 x2, .int .i64 y2, .int .i64 z2, .int .i64 u2, .slice A2 n2 c2, .int .i64 pr, .bool fr], .int .i64 px, .int .i64 py] w fun e w' => e = .returned (.agg #[.int .i64 r0, .int .i64 r1]) ∧ Below w.heap.size w w') (N : Nat) (hN : (if validB x0 y0 x1 y1 x2 y2 = true then n0 else 0) = N) :
    Calls Try.prog 30 #[.agg #[.int .i64 x0, .int .i64 y0, .int .i64 z0, .int .i64 u0, .slice A0 n0 c0, .int .i64 x1, .int .i64 y1, .int .i64 z1, .int .i64 u1, .slice A1 n1 c1, .int .i64 x2, .int .i64 y2, .int .i64 z2, .int .i64 u2, .slice A2 n2 c2, .int .i64 pr, .bool fr], .int .i64 x, .int .i64 y] w fun e w' => Below w.heap.size w w' ∧ ∃ v, e = .returned v ∧ w'.ownsRow w.heap.size 3 1 v N (intsOf (valsAt r0 r1 n1 n2 f0 f1 f2) N) := by
  have e0 : IntKind.i64.wrap (x * 256) = x * 256 := by rw [IntKind.wrap_i64]; omega
  have e1 : IntKind.i64.wrap (x * 256 + 128) = px := by rw [IntKind.wrap_i64]; omega
  have e2 : IntKind.i64.wrap (y * 256) = y * 256 := by rw [IntKind.wrap_i64]; omega
  have e3 : IntKind.i64.wrap (y * 256 + 128) = py := by rw [IntKind.wrap_i64]; omega
  have hk := Lib.hid (Blk.new w 27 #[.int .i64 x0, .int .i64 y0, .int .i64 z0, .int .i64 u0, .slice A0 n0 c0, .int .i64 x1, .int .i64 y1, .int .i64 z1, .int .i64 u1, .slice A1 n1 c1, .int .i64 x2, .int .i64 y2, .int .i64 z2, .int .i64 u2, .slice A2 n2 c2, .int .i64 pr, .bool fr])
  have hB : Hid (Below w.heap.size w (w.alloc (.cells #[.int .i64 x0, .int .i64 y0, .int .i64 z0, .int .i64 u0, .slice A0 n0 c0, .int .i64 x1, .int .i64 y1, .int .i64 z1, .int .i64 u1, .slice A1 n1 c1, .int .i64 x2, .int .i64 y2, .int .i64 z2, .int .i64 u2, .slice A2 n2 c2, .int .i64 pr, .bool fr] 27))) := Lib.hid (by go_grown)
  have hV := Lib.hid (values_anyo x0 y0 z0 u0 x1 y1 z1 u1 x2 y2 z2 u2 A0 A1 A2 n0 c0 n1 c1 n2 c2 pr fr px py _ hn0 hn1 hn2 f0 f1 f2 (k0.alloc (.cells #[.int .i64 x0, .int .i64 y0, .int .i64 z0, .int .i64 u0, .slice A0 n0 c0, .int .i64 x1, .int .i64 y1, .int .i64 z1, .int .i64 u1, .slice A1 n1 c1, .int .i64 x2, .int .i64 y2, .int .i64 z2, .int .i64 u2, .slice A2 n2 c2, .int .i64 pr, .bool fr] 27)) (k1.alloc (.cells #[.int .i64 x0, .int .i64 y0, .int .i64 z0, .int .i64 u0, .slice A0 n0 c0, .int .i64 x1, .int .i64 y1, .int .i64 z1, .int .i64 u1, .slice A1 n1 c1, .int .i64 x2, .int .i64 y2, .int .i64 z2, .int .i64 u2, .slice A2 n2 c2, .int .i64 pr, .bool fr] 27)) (k2.alloc (.cells #[.int .i64 x0, .int .i64 y0, .int .i64 z0, .int .i64 u0, .slice A0 n0 c0, .int .i64 x1, .int .i64 y1, .int .i64 z1, .int .i64 u1, .slice A1 n1 c1, .int .i64 x2, .int .i64 y2, .int .i64 z2, .int .i64 u2, .slice A2 n2 c2, .int .i64 pr, .bool fr] 27)) r0 r1 hP N hN)
  clear hx hy hP hN k0 k1 k2
  go_enter Try.func30, Try.ntmps30
  go_wp2_with (refine wpList_load_row rfl 27 _ rfl _ rfl _ _ _ _ hk.out Try.underlying27 rfl triInfo ?_)
  refine hV.out.mono ?_
  rintro e W ⟨hb, v, rfl, ho⟩
  replace ho := Lib.hid ho
  replace hB := Lib.hid (below_on hB.out hb)
  clear hb
  go_wp2
  go_ret
  exact ⟨hB.out, v, rfl, own_base ho.out (by simp)⟩
set_option maxHeartbeats 8000000 in
theorem center_any (x0 y0 z0 u0 x1 y1 z1 u1 x2 y2 z2 u2 : Int) (A0 A1 A2 : Option Addr) (n0 c0 n1 c1 n2 c2 : Nat) (pr : Int) (fr : Bool) (x y px py : Int) (hx0 : 0 ≤ x) (hx1 : x ≤ 63) (hy0 : 0 ≤ y) (hy1 : y ≤ 63) (hx : x * 256 + 128 = px) (hy : y * 256 + 128 = py) (w : World) (hn0 : n0 ≤ 17592186043904) (hn1 : n1 ≤ 17592186043904) (hn2 : n2 ≤ 17592186043904) (f0 f1 f2 : Nat → Int) (k0 : Sl w A0 n0 c0 f0) (k1 : Sl w A1 n1 c1 f1) (k2 : Sl w A2 n2 c2 f2) (r0 r1 : Int) (hP : ∀ w, Calls Try.prog 20 #[.agg #[.int .i64 x0, .int .i64 y0, .int .i64 z0, .int .i64 u0, .slice A0 n0 c0, .int .i64 x1, .int .i64 y1, .int .i64 z1, .int .i64 u1, .slice A1 n1 c1, .int .i64 x2, .int .i64 y2, .int .i64 z2, .int .i64 u2, .slice A2 n2 c2, .int .i64 pr, .bool fr], .int .i64 px, .int .i64 py] w fun e w' => e = .returned (.agg #[.int .i64 r0, .int .i64 r1]) ∧ Below w.heap.size w w') (N : Nat) (hN : (if validB x0 y0 x1 y1 x2 y2 = true then n0 else 0) = N) :
    Calls Try.prog 33 #[.agg #[.int .i64 x0, .int .i64 y0, .int .i64 z0, .int .i64 u0, .slice A0 n0 c0, .int .i64 x1, .int .i64 y1, .int .i64 z1, .int .i64 u1, .slice A1 n1 c1, .int .i64 x2, .int .i64 y2, .int .i64 z2, .int .i64 u2, .slice A2 n2 c2, .int .i64 pr, .bool fr], .int .i64 x, .int .i64 y] w fun e w' => Below w.heap.size w w' ∧ ∃ A c, e = .returned (.slice A N c) ∧ Sl w' A N c (valsAt r0 r1 n1 n2 f0 f1 f2) ∧ ∀ a, A = some a → w.heap.size ≤ a.block := by
  have e0 : IntKind.i64.wrap (256 * x) = x * 256 := by rw [IntKind.wrap_i64]; omega
  have e1 : IntKind.i64.wrap (x * 256 + 128) = px := by rw [IntKind.wrap_i64]; omega
  have e2 : IntKind.i64.wrap (256 * y) = y * 256 := by rw [IntKind.wrap_i64]; omega
  have e3 : IntKind.i64.wrap (y * 256 + 128) = py := by rw [IntKind.wrap_i64]; omega
  have hk := Lib.hid (Blk.new w 27 #[.int .i64 x0, .int .i64 y0, .int .i64 z0, .int .i64 u0, .slice A0 n0 c0, .int .i64 x1, .int .i64 y1, .int .i64 z1, .int .i64 u1, .slice A1 n1 c1, .int .i64 x2, .int .i64 y2, .int .i64 z2, .int .i64 u2, .slice A2 n2 c2, .int .i64 pr, .bool fr])
  have hB : Hid (Below w.heap.size w (w.alloc (.cells #[.int .i64 x0, .int .i64 y0, .int .i64 z0, .int .i64 u0, .slice A0 n0 c0, .int .i64 x1, .int .i64 y1, .int .i64 z1, .int .i64 u1, .slice A1 n1 c1, .int .i64 x2, .int .i64 y2, .int .i64 z2, .int .i64 u2, .slice A2 n2 c2, .int .i64 pr, .bool fr] 27))) := Lib.hid (by go_grown)
  have hV := Lib.hid (rValues_any x0 y0 z0 u0 x1 y1 z1 u1 x2 y2 z2 u2 A0 A1 A2 n0 c0 n1 c1 n2 c2 pr fr px py _ hn0 hn1 hn2 f0 f1 f2 (k0.alloc (.cells #[.int .i64 x0, .int .i64 y0, .int .i64 z0, .int .i64 u0, .slice A0 n0 c0, .int .i64 x1, .int .i64 y1, .int .i64 z1, .int .i64 u1, .slice A1 n1 c1, .int .i64 x2, .int .i64 y2, .int .i64 z2, .int .i64 u2, .slice A2 n2 c2, .int .i64 pr, .bool fr] 27)) (k1.alloc (.cells #[.int .i64 x0, .int .i64 y0, .int .i64 z0, .int .i64 u0, .slice A0 n0 c0, .int .i64 x1, .int .i64 y1, .int .i64 z1, .int .i64 u1, .slice A1 n1 c1, .int .i64 x2, .int .i64 y2, .int .i64 z2, .int .i64 u2, .slice A2 n2 c2, .int .i64 pr, .bool fr] 27)) (k2.alloc (.cells #[.int .i64 x0, .int .i64 y0, .int .i64 z0, .int .i64 u0, .slice A0 n0 c0, .int .i64 x1, .int .i64 y1, .int .i64 z1, .int .i64 u1, .slice A1 n1 c1, .int .i64 x2, .int .i64 y2, .int .i64 z2, .int .i64 u2, .slice A2 n2 c2, .int .i64 pr, .bool fr] 27)) r0 r1 hP N hN)
  clear hx hy hP hN k0 k1 k2
  go_enter Try.func33, Try.ntmps33
  go_wp2_with (refine wpList_load_row rfl 27 _ rfl _ rfl _ _ _ _ hk.out Try.underlying27 rfl triInfo ?_)
  refine hV.out.mono ?_
  rintro e W ⟨hb, A, c, rfl, hs, hl⟩
  replace hs := Lib.hid hs
  replace hl := Lib.hid hl
  replace hB := Lib.hid (below_on hB.out hb)
  clear hb
  go_wp2
  go_ret
  exact ⟨hB.out, A, c, rfl, hs.out, fun a e => by have := hl.out a e; simp at this; omega⟩
theorem vat_any (x0 y0 z0 u0 x1 y1 z1 u1 x2 y2 z2 u2 : Int) (A0 A1 A2 : Option Addr) (n0 c0 n1 c1 n2 c2 : Nat) (pr : Int) (fr : Bool) (x y px py : Int) (hx0 : 0 ≤ x) (hx1 : x ≤ 63) (hy0 : 0 ≤ y) (hy1 : y ≤ 63) (hx : x * 256 + 128 = px) (hy : y * 256 + 128 = py) (w : World) (hn0 : n0 ≤ 17592186043904) (hn1 : n1 ≤ 17592186043904) (hn2 : n2 ≤ 17592186043904) (f0 f1 f2 : Nat → Int) (k0 : Sl w A0 n0 c0 f0) (k1 : Sl w A1 n1 c1 f1) (k2 : Sl w A2 n2 c2 f2) (r0 r1 : Int) (hP : ∀ w, Calls Try.prog 19 #[.agg #[.int .i64 x0, .int .i64 y0, .int .i64 z0, .int .i64 u0, .slice A0 n0 c0, .int .i64 x1, .int .i64 y1, .int .i64 z1, .int .i64 u1, .slice A1 n1 c1, .int .i64 x2, .int .i64 y2, .int .i64 z2, .int .i64 u2, .slice A2 n2 c2, .int .i64 pr, .bool fr], .int .i64 px, .int .i64 py] w fun e w' => e = .returned (.agg #[.int .i64 r0, .int .i64 r1]) ∧ Below w.heap.size w w') (N : Nat) (hN : (if validB x0 y0 x1 y1 x2 y2 = true then n0 else 0) = N) :
    Calls Try.prog 30 #[.agg #[.int .i64 x0, .int .i64 y0, .int .i64 z0, .int .i64 u0, .slice A0 n0 c0, .int .i64 x1, .int .i64 y1, .int .i64 z1, .int .i64 u1, .slice A1 n1 c1, .int .i64 x2, .int .i64 y2, .int .i64 z2, .int .i64 u2, .slice A2 n2 c2, .int .i64 pr, .bool fr], .int .i64 x, .int .i64 y] w fun e w' => Below w.heap.size w w' ∧ ∃ A c, e = .returned (.slice A N c) ∧ Sl w' A N c (valsAt r0 r1 n1 n2 f0 f1 f2) ∧ ∀ a, A = some a → w.heap.size ≤ a.block :=
  (vat_anyo x0 y0 z0 u0 x1 y1 z1 u1 x2 y2 z2 u2 A0 A1 A2 n0 c0 n1 c1 n2 c2 pr fr x y px py hx0 hx1 hy0 hy1 hx hy w hn0 hn1 hn2 f0 f1 f2 k0 k1 k2 r0 r1 hP N hN).mono fun e w' ⟨hb, v, he, ho⟩ => by
    obtain ⟨A, c, rfl, hs, hl⟩ := own_sl ho
    exact ⟨hb, A, c, he, hs, hl⟩
end Go.Proofs.Ythbagegkcpblgaa
