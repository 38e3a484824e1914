/- Derivatives of both. -/
import Derived.Test.YthbagegkcpblgaaVar10
import Derived.Test.YthbagegkcpblgaaVar11
import Derived.Test.YthbagegkcpblgaaChain
namespace Go.Proofs.Ythbagegkcpblgaa
open Go.RowKit
attribute [local go_sem] Ext.cell
theorem clamp_bl (x lo hi v : Int) (h : clampI x lo hi = v) (w : World) : Calls Try.prog 29 #[.int .i64 x, .int .i64 lo, .int .i64 hi] w fun e w' => e = .returned (.int .i64 v) ∧ Below w.heap.size w w' :=
  (clamp_at x lo hi v w h).mono fun _ _ ⟨h1, h2⟩ => ⟨h1, h2 ▸ Below.refl _ _⟩
theorem r_clamp_bl (x lo hi v : Int) (hlh : lo ≤ hi) (h : clampI x lo hi = v) (w : World) : Calls Try.prog 32 #[.int .i64 x, .int .i64 lo, .int .i64 hi] w fun e w' => e = .returned (.int .i64 v) ∧ Below w.heap.size w w' :=
  (r_clamp_at x lo hi v hlh w h).mono fun _ _ ⟨h1, h2⟩ => ⟨h1, h2 ▸ Below.refl _ _⟩
set_option maxRecDepth 100000 in
set_option maxHeartbeats 16000000 in
theorem deriv_any (x0 y0 z0 u0 x1 y1 z1 u1 x2 y2 z2 u2 : Int) (A0 A1 A2 : Option Addr) (n0 c0 n1 c1 n2 c2 : Nat) (pr : Int) (fr : Bool) (p q x y : Int) (hx : clampI p 0 62 = x) (hy : clampI q 0 62 = y) (w : World) (hn0 : n0 ≤ 17592186043904) (hn1 : n1 ≤ 17592186043904) (hn2 : n2 ≤ 17592186043904) (f0 f1 f2 : Nat → Int) (k0 : Sl w A0 n0 c0 f0) (k1 : Sl w A1 n1 c1 f1) (k2 : Sl w A2 n2 c2 f2) (r0 r1 a0 a1 b0 b1 : Int) (hP0 : ∀ w, Calls Try.prog 19 #[.agg #[.int .i64 x0, .int .i64 y0, .int .i64 z0, .int .i64 u0, .slice A0 n0 c0, .int .i64 x1, .int .i64 y1, .int .i64 z1, .int .i64 u1, .slice A1 n1 c1, .int .i64 x2, .int .i64 y2, .int .i64 z2, .int .i64 u2, .slice A2 n2 c2, .int .i64 pr, .bool fr], .int .i64 (x * 256 + 128), .int .i64 (y * 256 + 128)] w fun e w' => e = .returned (.agg #[.int .i64 r0, .int .i64 r1]) ∧ Below w.heap.size w w') (hP1 : ∀ w, Calls Try.prog 19 #[.agg #[.int .i64 x0, .int .i64 y0, .int .i64 z0, .int .i64 u0, .slice A0 n0 c0, .int .i64 x1, .int .i64 y1, .int .i64 z1, .int .i64 u1, .slice A1 n1 c1, .int .i64 x2, .int .i64 y2, .int .i64 z2, .int .i64 u2, .slice A2 n2 c2, .int .i64 pr, .bool fr], .int .i64 ((x + 1) * 256 + 128), .int .i64 (y * 256 + 128)] w fun e w' => e = .returned (.agg #[.int .i64 a0, .int .i64 a1]) ∧ Below w.heap.size w w') (hP2 : ∀ w, Calls Try.prog 19 #[.agg #[.int .i64 x0, .int .i64 y0, .int .i64 z0, .int .i64 u0, .slice A0 n0 c0, .int .i64 x1, .int .i64 y1, .int .i64 z1, .int .i64 u1, .slice A1 n1 c1, .int .i64 x2, .int .i64 y2, .int .i64 z2, .int .i64 u2, .slice A2 n2 c2, .int .i64 pr, .bool fr], .int .i64 (x * 256 + 128), .int .i64 ((y + 1) * 256 + 128)] w fun e w' => e = .returned (.agg #[.int .i64 b0, .int .i64 b1]) ∧ Below w.heap.size w w') (N : Nat) (hN : (if validB x0 y0 x1 y1 x2 y2 = true then n0 else 0) = N) (U V : Nat → Int) (hU : ∀ k, fsub ((valsAt a0 a1 n1 n2 f0 f1 f2) k) ((valsAt r0 r1 n1 n2 f0 f1 f2) k) = U k) (hV : ∀ k, fsub ((valsAt b0 b1 n1 n2 f0 f1 f2) k) ((valsAt r0 r1 n1 n2 f0 f1 f2) k) = V k) :
    Calls Try.prog 9 #[.agg #[.int .i64 x0, .int .i64 y0, .int .i64 z0, .int .i64 u0, .slice A0 n0 c0, .int .i64 x1, .int .i64 y1, .int .i64 z1, .int .i64 u1, .slice A1 n1 c1, .int .i64 x2, .int .i64 y2, .int .i64 z2, .int .i64 u2, .slice A2 n2 c2, .int .i64 pr, .bool fr], .int .i64 p, .int .i64 q] w fun e w' => Below w.heap.size w w' ∧ ∃ A c B d, e = .returned (.tuple #[.slice A N c, .slice B N d]) ∧ Sl w' A N c U ∧ Sl w' B N d V ∧ (∀ a, A = some a → w.heap.size ≤ a.block) ∧ (∀ a, B = some a → w.heap.size ≤ a.block) := by
  have hx0 : 0 ≤ x ∧ x ≤ 62 := by unfold clampI at hx; omega
  have hy0 : 0 ≤ y ∧ y ≤ 62 := by unfold clampI at hy; omega
  have hNn : N ≤ 17592186043904 := by rw [← hN]; split <;> omega
  have ex : IntKind.i64.wrap (x + 1) = x + 1 := by rw [IntKind.wrap_i64]; omega
  have ey : IntKind.i64.wrap (y + 1) = y + 1 := by rw [IntKind.wrap_i64]; omega
  have hCx := Lib.hid (fun w => clamp_bl p 0 62 x hx w)
  have hCy := Lib.hid (fun w => clamp_bl q 0 62 y hy w)
  have hA := Lib.hid (fun w k0 k1 k2 => vat_any x0 y0 z0 u0 x1 y1 z1 u1 x2 y2 z2 u2 A0 A1 A2 n0 c0 n1 c1 n2 c2 pr fr x y _ _ (by omega) (by omega) (by omega) (by omega) rfl rfl w hn0 hn1 hn2 f0 f1 f2 k0 k1 k2 r0 r1 hP0 N hN)
  have hA1 := Lib.hid (fun w k0 k1 k2 => vat_any x0 y0 z0 u0 x1 y1 z1 u1 x2 y2 z2 u2 A0 A1 A2 n0 c0 n1 c1 n2 c2 pr fr (x + 1) y _ _ (by omega) (by omega) (by omega) (by omega) rfl rfl w hn0 hn1 hn2 f0 f1 f2 k0 k1 k2 a0 a1 hP1 N hN)
  have hA2 := Lib.hid (fun w k0 k1 k2 => vat_any x0 y0 z0 u0 x1 y1 z1 u1 x2 y2 z2 u2 A0 A1 A2 n0 c0 n1 c1 n2 c2 pr fr x (y + 1) _ _ (by omega) (by omega) (by omega) (by omega) rfl rfl w hn0 hn1 hn2 f0 f1 f2 k0 k1 k2 b0 b1 hP2 N hN)
  have hk := Lib.hid (Blk.new w 27 #[.int .i64 x0, .int .i64 y0, .int .i64 z0, .int .i64 u0, .slice A0 n0 c0, .int .i64 x1, .int .i64 y1, .int .i64 z1, .int .i64 u1, .slice A1 n1 c1, .int .i64 x2, .int .i64 y2, .int .i64 z2, .int .i64 u2, .slice A2 n2 c2, .int .i64 pr, .bool fr])
  have hB : Hid (Below w.heap.size w (w.alloc (.cells #[.int .i64 x0, .int .i64 y0, .int .i64 z0, .int .i64 u0, .slice A0 n0 c0, .int .i64 x1, .int .i64 y1, .int .i64 z1, .int .i64 u1, .slice A1 n1 c1, .int .i64 x2, .int .i64 y2, .int .i64 z2, .int .i64 u2, .slice A2 n2 c2, .int .i64 pr, .bool fr] 27))) := Lib.hid (by go_grown)
  replace k0 := Lib.hid (k0.alloc (.cells #[.int .i64 x0, .int .i64 y0, .int .i64 z0, .int .i64 u0, .slice A0 n0 c0, .int .i64 x1, .int .i64 y1, .int .i64 z1, .int .i64 u1, .slice A1 n1 c1, .int .i64 x2, .int .i64 y2, .int .i64 z2, .int .i64 u2, .slice A2 n2 c2, .int .i64 pr, .bool fr] 27))
  replace k1 := Lib.hid (k1.alloc (.cells #[.int .i64 x0, .int .i64 y0, .int .i64 z0, .int .i64 u0, .slice A0 n0 c0, .int .i64 x1, .int .i64 y1, .int .i64 z1, .int .i64 u1, .slice A1 n1 c1, .int .i64 x2, .int .i64 y2, .int .i64 z2, .int .i64 u2, .slice A2 n2 c2, .int .i64 pr, .bool fr] 27))
  replace k2 := Lib.hid (k2.alloc (.cells #[.int .i64 x0, .int .i64 y0, .int .i64 z0, .int .i64 u0, .slice A0 n0 c0, .int .i64 x1, .int .i64 y1, .int .i64 z1, .int .i64 u1, .slice A1 n1 c1, .int .i64 x2, .int .i64 y2, .int .i64 z2, .int .i64 u2, .slice A2 n2 c2, .int .i64 pr, .bool fr] 27))
  have hU' := Lib.hid hU
  have hV' := Lib.hid hV
  clear hx hy hP0 hP1 hP2 hN hU hV hx0 hy0
  go_enter Try.func9, Try.ntmps9
  go_wp2_with fail
  generalize w.alloc (.cells #[.int .i64 x0, .int .i64 y0, .int .i64 z0, .int .i64 u0, .slice A0 n0 c0, .int .i64 x1, .int .i64 y1, .int .i64 z1, .int .i64 u1, .slice A1 n1 c1, .int .i64 x2, .int .i64 y2, .int .i64 z2, .int .i64 u2, .slice A2 n2 c2, .int .i64 pr, .bool fr] 27) = X at *
  refine (hCx.out _).mono ?_
  rintro e W1 ⟨rfl, hb⟩
  replace hk := Lib.hid (hk.out.call hb)
  replace k0 := Lib.hid (k0.out.call hb)
  replace k1 := Lib.hid (k1.out.call hb)
  replace k2 := Lib.hid (k2.out.call hb)
  replace hB := Lib.hid (below_on hB.out hb)
  clear hb
  go_wp2_with fail
  refine (hCy.out _).mono ?_
  rintro e W2 ⟨rfl, hb⟩
  replace hk := Lib.hid (hk.out.call hb)
  replace k0 := Lib.hid (k0.out.call hb)
  replace k1 := Lib.hid (k1.out.call hb)
  replace k2 := Lib.hid (k2.out.call hb)
  replace hB := Lib.hid (below_on hB.out hb)
  clear hb
  clear hCx hCy
  go_wp2_with (refine wpList_load_row rfl 27 _ rfl _ rfl _ _ _ _ hk.out Try.underlying27 rfl triInfo ?_)
  refine (hA.out _ k0.out k1.out k2.out).mono ?_
  rintro e W3 ⟨hb, A, c, rfl, hs, -⟩
  replace hk := Lib.hid (hk.out.call hb)
  replace k0 := Lib.hid (k0.out.call hb)
  replace k1 := Lib.hid (k1.out.call hb)
  replace k2 := Lib.hid (k2.out.call hb)
  replace hB := Lib.hid (below_on hB.out hb)
  clear hb
  replace hs := Lib.hid hs
  clear hA
  go_wp2_with fail
  have lk := hk.out.lt
  have sz3 := hB.out.size
  refine wp_region_noPanic ?_
  refine wp_region_held_drew (S := fun w' => ∃ n : Ext W3 (W3.heap.size), w' = n.val) (by kernel_rfl) ⟨⟨W3.drew, (Below.refl _ _).drew⟩, rfl⟩ (fun _ => ?_)
  refine held_quiets (fun _ _ _ _ _ h => h) (by kernel_rfl) ⟨⟨_, (((Below.refl _ _).drew).mono (Nat.le_refl _))⟩, rfl⟩ [0, 1, 2, 3, 5, 7, 8, 9, 10, 12] _ _ _ (by kernel_rfl) (by kernel_rfl) (of_decide_eq_true (by kernel_rfl)) ?_
  simp only [List.filterMap, List.getElem?_toArray, List.getElem?_cons_succ, List.getElem?_cons_zero]
  repeat (first | (go_big_quiet_want; refine quiet_load_row 27 _ rfl _ rfl _ _ _ hk.out (by first | assumption | omega) Try.underlying27 rfl triInfo ?_; simp only [Act.put, List.setIfInBounds_toArray, List.set_cons_zero, List.set_cons_succ]; go_big_quiet_on) | go_big_quiet_step (fail))
  refine wpQuiet_nil ?_
  refine held_heavy (i := 4) (by kernel_rfl) rfl (by rfl) (of_decide_eq_true (by kernel_rfl)) (fun K hK => ?_)
  go_simp
  refine (hA1.out _ k0.out.drew k1.out.drew k2.out.drew).mono ?_
  rintro e U1 ⟨hv1, A1, d1, rfl, hs1, hl1⟩
  have hbU1 : Below W3.heap.size W3 U1 := (((Below.refl _ _).drew).trans (hv1.mono (Nat.le_refl _)))
  have hh1 := Lib.hid (hs.out.call hbU1)
  replace hs1 := Lib.hid hs1
  clear hl1
  refine hK _ _ ⟨⟨U1, (hbU1.mono (Nat.le_refl _))⟩, rfl⟩ ?_
  clear hK K
  try simp only [Act.put, List.setIfInBounds_toArray, List.set_cons_zero, List.set_cons_succ]
  refine held_heavy (i := 6) (by kernel_rfl) rfl (by rfl) (of_decide_eq_true (by kernel_rfl)) (fun K hK => ?_)
  go_simp
  refine (minus_yes N hNn (valsAt a0 a1 n1 n2 f0 f1 f2) (valsAt r0 r1 n1 n2 f0 f1 f2) U hU'.out A1 A d1 c U1 hs1.out hh1.out).mono ?_
  rintro e U2 ⟨hv2, A2, d2, rfl, hs2, hl2⟩
  have hbU2 : Below W3.heap.size W3 U2 := (below_on hbU1 hv2)
  replace hs2 := Lib.hid hs2
  have hl2' : Hid (∀ a, A2 = some a → w.heap.size ≤ a.block) := Lib.hid (fun a e => by have := hl2 a e; have := hbU1.size; omega)
  clear hl2 hs1 hh1
  refine hK _ _ ⟨⟨U2, (hbU2.mono (Nat.le_refl _))⟩, rfl⟩ ?_
  clear hK K
  try simp only [Act.put, List.setIfInBounds_toArray, List.set_cons_zero, List.set_cons_succ]
  refine held_heavy (i := 11) (by kernel_rfl) rfl (by rfl) (of_decide_eq_true (by kernel_rfl)) (fun K hK => ?_)
  go_simp
  refine (hA2.out _ (k0.out.call hbU2) (k1.out.call hbU2) (k2.out.call hbU2)).mono ?_
  rintro e U3 ⟨hv3, A3, d3, rfl, hs3, hl3⟩
  have hbU3 : Below W3.heap.size W3 U3 := (below_on hbU2 hv3)
  replace hs2 := Lib.hid (hs2.out.call hv3)
  have hh3 := Lib.hid (hs.out.call hbU3)
  replace hs3 := Lib.hid hs3
  clear hl3
  refine hK _ _ ⟨⟨U3, (hbU3.mono (Nat.le_refl _))⟩, rfl⟩ ?_
  clear hK K
  try simp only [Act.put, List.setIfInBounds_toArray, List.set_cons_zero, List.set_cons_succ]
  refine held_heavy (i := 13) (by kernel_rfl) rfl (by rfl) (of_decide_eq_true (by kernel_rfl)) (fun K hK => ?_)
  go_simp
  refine (minus_yes N hNn (valsAt b0 b1 n1 n2 f0 f1 f2) (valsAt r0 r1 n1 n2 f0 f1 f2) V hV'.out A3 A d3 c U3 hs3.out hh3.out).mono ?_
  rintro e U4 ⟨hv4, A4, d4, rfl, hs4, hl4⟩
  have hbU4 : Below W3.heap.size W3 U4 := (below_on hbU3 hv4)
  replace hs2 := Lib.hid (hs2.out.call hv4)
  replace hs4 := Lib.hid hs4
  have hl4' : Hid (∀ a, A4 = some a → w.heap.size ≤ a.block) := Lib.hid (fun a e => by have := hl4 a e; have := hbU3.size; omega)
  clear hl4 hs3 hh3
  refine hK _ _ ⟨⟨U4, (hbU4.mono (Nat.le_refl _))⟩, rfl⟩ ?_
  clear hK K
  try simp only [Act.put, List.setIfInBounds_toArray, List.set_cons_zero, List.set_cons_succ]
  refine held_quiets (fun _ _ _ _ _ h => h) (by kernel_rfl) ⟨⟨_, (hbU4.mono (Nat.le_refl _))⟩, rfl⟩ [14, 15] _ _ _ (by kernel_rfl) (by kernel_rfl) (of_decide_eq_true (by kernel_rfl)) ?_
  simp only [List.filterMap, List.getElem?_toArray, List.getElem?_cons_succ, List.getElem?_cons_zero]
  repeat (first | (go_big_quiet_want; refine quiet_load_row 27 _ rfl _ rfl _ _ _ hk.out (by first | assumption | omega) Try.underlying27 rfl triInfo ?_; simp only [Act.put, List.setIfInBounds_toArray, List.set_cons_zero, List.set_cons_succ]; go_big_quiet_on) | go_big_quiet_step (fail))
  refine wpQuiet_nil ?_
  refine wpAnyH_done (by kernel_rfl) ?_ _
  refine NoPanic.normal ?_
  replace hB := Lib.hid (below_on hB.out hbU4)
  clear hbU1 hbU2 hbU3 hbU4 hA1 hA2
  go_wp2_with fail
  go_ret2
  exact ⟨hB.out, A2, d2, A4, d4, rfl, hs2.out, hs4.out, hl2'.out, hl4'.out⟩
set_option maxRecDepth 100000 in
set_option maxHeartbeats 16000000 in
theorem rDeriv_any (x0 y0 z0 u0 x1 y1 z1 u1 x2 y2 z2 u2 : Int) (A0 A1 A2 : Option Addr) (n0 c0 n1 c1 n2 c2 : Nat) (pr : Int) (fr : Bool) (p q x y : Int) (hx : clampI p 0 62 = x) (hy : clampI q 0 62 = y) (w : World) (hn0 : n0 ≤ 17592186043904) (hn1 : n1 ≤ 17592186043904) (hn2 : n2 ≤ 17592186043904) (f0 f1 f2 : Nat → Int) (k0 : Sl w A0 n0 c0 f0) (k1 : Sl w A1 n1 c1 f1) (k2 : Sl w A2 n2 c2 f2) (r0 r1 a0 a1 b0 b1 : Int) (hP0 : ∀ w, Calls Try.prog 20 #[.agg #[.int .i64 x0, .int .i64 y0, .int .i64 z0, .int .i64 u0, .slice A0 n0 c0, .int .i64 x1, .int .i64 y1, .int .i64 z1, .int .i64 u1, .slice A1 n1 c1, .int .i64 x2, .int .i64 y2, .int .i64 z2, .int .i64 u2, .slice A2 n2 c2, .int .i64 pr, .bool fr], .int .i64 (x * 256 + 128), .int .i64 (y * 256 + 128)] w fun e w' => e = .returned (.agg #[.int .i64 r0, .int .i64 r1]) ∧ Below w.heap.size w w') (hP1 : ∀ w, Calls Try.prog 20 #[.agg #[.int .i64 x0, .int .i64 y0, .int .i64 z0, .int .i64 u0, .slice A0 n0 c0, .int .i64 x1, .int .i64 y1, .int .i64 z1, .int .i64 u1, .slice A1 n1 c1, .int .i64 x2, .int .i64 y2, .int .i64 z2, .int .i64 u2, .slice A2 n2 c2, .int .i64 pr, .bool fr], .int .i64 ((x + 1) * 256 + 128), .int .i64 (y * 256 + 128)] w fun e w' => e = .returned (.agg #[.int .i64 a0, .int .i64 a1]) ∧ Below w.heap.size w w') (hP2 : ∀ w, Calls Try.prog 20 #[.agg #[.int .i64 x0, .int .i64 y0, .int .i64 z0, .int .i64 u0, .slice A0 n0 c0, .int .i64 x1, .int .i64 y1, .int .i64 z1, .int .i64 u1, .slice A1 n1 c1, .int .i64 x2, .int .i64 y2, .int .i64 z2, .int .i64 u2, .slice A2 n2 c2, .int .i64 pr, .bool fr], .int .i64 (x * 256 + 128), .int .i64 ((y + 1) * 256 + 128)] w fun e w' => e = .returned (.agg #[.int .i64 b0, .int .i64 b1]) ∧ Below w.heap.size w w') (N : Nat) (hN : (if validB x0 y0 x1 y1 x2 y2 = true then n0 else 0) = N) (U V : Nat → Int) (hU : ∀ k, fsub ((valsAt a0 a1 n1 n2 f0 f1 f2) k) ((valsAt r0 r1 n1 n2 f0 f1 f2) k) = U k) (hV : ∀ k, fsub ((valsAt b0 b1 n1 n2 f0 f1 f2) k) ((valsAt r0 r1 n1 n2 f0 f1 f2) k) = V k) :
    Calls Try.prog 10 #[.agg #[.int .i64 x0, .int .i64 y0, .int .i64 z0, .int .i64 u0, .slice A0 n0 c0, .int .i64 x1, .int .i64 y1, .int .i64 z1, .int .i64 u1, .slice A1 n1 c1, .int .i64 x2, .int .i64 y2, .int .i64 z2, .int .i64 u2, .slice A2 n2 c2, .int .i64 pr, .bool fr], .int .i64 p, .int .i64 q] w fun e w' => Below w.heap.size w w' ∧ ∃ A c B d, e = .returned (.tuple #[.slice A N c, .slice B N d]) ∧ Sl w' A N c U ∧ Sl w' B N d V ∧ (∀ a, A = some a → w.heap.size ≤ a.block) ∧ (∀ a, B = some a → w.heap.size ≤ a.block) := by
  have hx0 : 0 ≤ x ∧ x ≤ 62 := by unfold clampI at hx; omega
  have hy0 : 0 ≤ y ∧ y ≤ 62 := by unfold clampI at hy; omega
  have hNn : N ≤ 17592186043904 := by rw [← hN]; split <;> omega
  have ex : IntKind.i64.wrap (x + 1) = x + 1 := by rw [IntKind.wrap_i64]; omega
  have ey : IntKind.i64.wrap (y + 1) = y + 1 := by rw [IntKind.wrap_i64]; omega
  have hCx := Lib.hid (fun w => r_clamp_bl p 0 62 x (by omega) hx w)
  have hCy := Lib.hid (fun w => r_clamp_bl q 0 62 y (by omega) hy w)
  have hA := Lib.hid (fun w k0 k1 k2 => center_any x0 y0 z0 u0 x1 y1 z1 u1 x2 y2 z2 u2 A0 A1 A2 n0 c0 n1 c1 n2 c2 pr fr x y _ _ (by omega) (by omega) (by omega) (by omega) rfl rfl w hn0 hn1 hn2 f0 f1 f2 k0 k1 k2 r0 r1 hP0 N hN)
  have hA1 := Lib.hid (fun w k0 k1 k2 => center_any x0 y0 z0 u0 x1 y1 z1 u1 x2 y2 z2 u2 A0 A1 A2 n0 c0 n1 c1 n2 c2 pr fr (x + 1) y _ _ (by omega) (by omega) (by omega) (by omega) rfl rfl w hn0 hn1 hn2 f0 f1 f2 k0 k1 k2 a0 a1 hP1 N hN)
  have hA2 := Lib.hid (fun w k0 k1 k2 => center_any x0 y0 z0 u0 x1 y1 z1 u1 x2 y2 z2 u2 A0 A1 A2 n0 c0 n1 c1 n2 c2 pr fr x (y + 1) _ _ (by omega) (by omega) (by omega) (by omega) rfl rfl w hn0 hn1 hn2 f0 f1 f2 k0 k1 k2 b0 b1 hP2 N hN)
  have hk := Lib.hid (Blk.new w 27 #[.int .i64 x0, .int .i64 y0, .int .i64 z0, .int .i64 u0, .slice A0 n0 c0, .int .i64 x1, .int .i64 y1, .int .i64 z1, .int .i64 u1, .slice A1 n1 c1, .int .i64 x2, .int .i64 y2, .int .i64 z2, .int .i64 u2, .slice A2 n2 c2, .int .i64 pr, .bool fr])
  have hB : Hid (Below w.heap.size w (w.alloc (.cells #[.int .i64 x0, .int .i64 y0, .int .i64 z0, .int .i64 u0, .slice A0 n0 c0, .int .i64 x1, .int .i64 y1, .int .i64 z1, .int .i64 u1, .slice A1 n1 c1, .int .i64 x2, .int .i64 y2, .int .i64 z2, .int .i64 u2, .slice A2 n2 c2, .int .i64 pr, .bool fr] 27))) := Lib.hid (by go_grown)
  replace k0 := Lib.hid (k0.alloc (.cells #[.int .i64 x0, .int .i64 y0, .int .i64 z0, .int .i64 u0, .slice A0 n0 c0, .int .i64 x1, .int .i64 y1, .int .i64 z1, .int .i64 u1, .slice A1 n1 c1, .int .i64 x2, .int .i64 y2, .int .i64 z2, .int .i64 u2, .slice A2 n2 c2, .int .i64 pr, .bool fr] 27))
  replace k1 := Lib.hid (k1.alloc (.cells #[.int .i64 x0, .int .i64 y0, .int .i64 z0, .int .i64 u0, .slice A0 n0 c0, .int .i64 x1, .int .i64 y1, .int .i64 z1, .int .i64 u1, .slice A1 n1 c1, .int .i64 x2, .int .i64 y2, .int .i64 z2, .int .i64 u2, .slice A2 n2 c2, .int .i64 pr, .bool fr] 27))
  replace k2 := Lib.hid (k2.alloc (.cells #[.int .i64 x0, .int .i64 y0, .int .i64 z0, .int .i64 u0, .slice A0 n0 c0, .int .i64 x1, .int .i64 y1, .int .i64 z1, .int .i64 u1, .slice A1 n1 c1, .int .i64 x2, .int .i64 y2, .int .i64 z2, .int .i64 u2, .slice A2 n2 c2, .int .i64 pr, .bool fr] 27))
  have hU' := Lib.hid hU
  have hV' := Lib.hid hV
  clear hx hy hP0 hP1 hP2 hN hU hV hx0 hy0
  go_enter Try.func10, Try.ntmps10
  go_wp2_with fail
  generalize w.alloc (.cells #[.int .i64 x0, .int .i64 y0, .int .i64 z0, .int .i64 u0, .slice A0 n0 c0, .int .i64 x1, .int .i64 y1, .int .i64 z1, .int .i64 u1, .slice A1 n1 c1, .int .i64 x2, .int .i64 y2, .int .i64 z2, .int .i64 u2, .slice A2 n2 c2, .int .i64 pr, .bool fr] 27) = X at *
  refine (hCx.out _).mono ?_
  rintro e W1 ⟨rfl, hb⟩
  replace hk := Lib.hid (hk.out.call hb)
  replace k0 := Lib.hid (k0.out.call hb)
  replace k1 := Lib.hid (k1.out.call hb)
  replace k2 := Lib.hid (k2.out.call hb)
  replace hB := Lib.hid (below_on hB.out hb)
  clear hb
  go_wp2_with fail
  refine (hCy.out _).mono ?_
  rintro e W2 ⟨rfl, hb⟩
  replace hk := Lib.hid (hk.out.call hb)
  replace k0 := Lib.hid (k0.out.call hb)
  replace k1 := Lib.hid (k1.out.call hb)
  replace k2 := Lib.hid (k2.out.call hb)
  replace hB := Lib.hid (below_on hB.out hb)
  clear hb
  clear hCx hCy
  go_wp2_with (refine wpList_load_row rfl 27 _ rfl _ rfl _ _ _ _ hk.out Try.underlying27 rfl triInfo ?_)
  refine (hA.out _ k0.out k1.out k2.out).mono ?_
  rintro e W3 ⟨hb, A, c, rfl, hs, -⟩
  replace hk := Lib.hid (hk.out.call hb)
  replace k0 := Lib.hid (k0.out.call hb)
  replace k1 := Lib.hid (k1.out.call hb)
  replace k2 := Lib.hid (k2.out.call hb)
  replace hB := Lib.hid (below_on hB.out hb)
  clear hb
  replace hs := Lib.hid hs
  clear hA
  go_wp2_with fail
  have lk := hk.out.lt
  have sz3 := hB.out.size
  refine wp_region_noPanic ?_
  refine wp_region_held_drew (S := fun w' => ∃ n : Ext W3 (W3.heap.size), w' = n.val) (by kernel_rfl) ⟨⟨W3.drew, (Below.refl _ _).drew⟩, rfl⟩ (fun _ => ?_)
  refine held_quiets (fun _ _ _ _ _ h => h) (by kernel_rfl) ⟨⟨_, (((Below.refl _ _).drew).mono (Nat.le_refl _))⟩, rfl⟩ [0, 1, 2, 3, 5, 7, 8, 9, 10, 12] _ _ _ (by kernel_rfl) (by kernel_rfl) (of_decide_eq_true (by kernel_rfl)) ?_
  simp only [List.filterMap, List.getElem?_toArray, List.getElem?_cons_succ, List.getElem?_cons_zero]
  repeat (first | (go_big_quiet_want; refine quiet_load_row 27 _ rfl _ rfl _ _ _ hk.out (by first | assumption | omega) Try.underlying27 rfl triInfo ?_; simp only [Act.put, List.setIfInBounds_toArray, List.set_cons_zero, List.set_cons_succ]; go_big_quiet_on) | go_big_quiet_step (fail))
  refine wpQuiet_nil ?_
  refine held_heavy (i := 4) (by kernel_rfl) rfl (by rfl) (of_decide_eq_true (by kernel_rfl)) (fun K hK => ?_)
  go_simp
  refine (hA1.out _ k0.out.drew k1.out.drew k2.out.drew).mono ?_
  rintro e U1 ⟨hv1, A1, d1, rfl, hs1, hl1⟩
  have hbU1 : Below W3.heap.size W3 U1 := (((Below.refl _ _).drew).trans (hv1.mono (Nat.le_refl _)))
  have hh1 := Lib.hid (hs.out.call hbU1)
  replace hs1 := Lib.hid hs1
  clear hl1
  refine hK _ _ ⟨⟨U1, (hbU1.mono (Nat.le_refl _))⟩, rfl⟩ ?_
  clear hK K
  try simp only [Act.put, List.setIfInBounds_toArray, List.set_cons_zero, List.set_cons_succ]
  refine held_heavy (i := 6) (by kernel_rfl) rfl (by rfl) (of_decide_eq_true (by kernel_rfl)) (fun K hK => ?_)
  go_simp
  refine (diff_yes N hNn (valsAt a0 a1 n1 n2 f0 f1 f2) (valsAt r0 r1 n1 n2 f0 f1 f2) U hU'.out A1 A d1 c U1 hs1.out hh1.out).mono ?_
  rintro e U2 ⟨hv2, A2, d2, rfl, hs2, hl2⟩
  have hbU2 : Below W3.heap.size W3 U2 := (below_on hbU1 hv2)
  replace hs2 := Lib.hid hs2
  have hl2' : Hid (∀ a, A2 = some a → w.heap.size ≤ a.block) := Lib.hid (fun a e => by have := hl2 a e; have := hbU1.size; omega)
  clear hl2 hs1 hh1
  refine hK _ _ ⟨⟨U2, (hbU2.mono (Nat.le_refl _))⟩, rfl⟩ ?_
  clear hK K
  try simp only [Act.put, List.setIfInBounds_toArray, List.set_cons_zero, List.set_cons_succ]
  refine held_heavy (i := 11) (by kernel_rfl) rfl (by rfl) (of_decide_eq_true (by kernel_rfl)) (fun K hK => ?_)
  go_simp
  refine (hA2.out _ (k0.out.call hbU2) (k1.out.call hbU2) (k2.out.call hbU2)).mono ?_
  rintro e U3 ⟨hv3, A3, d3, rfl, hs3, hl3⟩
  have hbU3 : Below W3.heap.size W3 U3 := (below_on hbU2 hv3)
  replace hs2 := Lib.hid (hs2.out.call hv3)
  have hh3 := Lib.hid (hs.out.call hbU3)
  replace hs3 := Lib.hid hs3
  clear hl3
  refine hK _ _ ⟨⟨U3, (hbU3.mono (Nat.le_refl _))⟩, rfl⟩ ?_
  clear hK K
  try simp only [Act.put, List.setIfInBounds_toArray, List.set_cons_zero, List.set_cons_succ]
  refine held_heavy (i := 13) (by kernel_rfl) rfl (by rfl) (of_decide_eq_true (by kernel_rfl)) (fun K hK => ?_)
  go_simp
  refine (diff_yes N hNn (valsAt b0 b1 n1 n2 f0 f1 f2) (valsAt r0 r1 n1 n2 f0 f1 f2) V hV'.out A3 A d3 c U3 hs3.out hh3.out).mono ?_
  rintro e U4 ⟨hv4, A4, d4, rfl, hs4, hl4⟩
  have hbU4 : Below W3.heap.size W3 U4 := (below_on hbU3 hv4)
  replace hs2 := Lib.hid (hs2.out.call hv4)
  replace hs4 := Lib.hid hs4
  have hl4' : Hid (∀ a, A4 = some a → w.heap.size ≤ a.block) := Lib.hid (fun a e => by have := hl4 a e; have := hbU3.size; omega)
  clear hl4 hs3 hh3
  refine hK _ _ ⟨⟨U4, (hbU4.mono (Nat.le_refl _))⟩, rfl⟩ ?_
  clear hK K
  try simp only [Act.put, List.setIfInBounds_toArray, List.set_cons_zero, List.set_cons_succ]
  refine held_quiets (fun _ _ _ _ _ h => h) (by kernel_rfl) ⟨⟨_, (hbU4.mono (Nat.le_refl _))⟩, rfl⟩ [14, 15] _ _ _ (by kernel_rfl) (by kernel_rfl) (of_decide_eq_true (by kernel_rfl)) ?_
  simp only [List.filterMap, List.getElem?_toArray, List.getElem?_cons_succ, List.getElem?_cons_zero]
  repeat (first | (go_big_quiet_want; refine quiet_load_row 27 _ rfl _ rfl _ _ _ hk.out (by first | assumption | omega) Try.underlying27 rfl triInfo ?_; simp only [Act.put, List.setIfInBounds_toArray, List.set_cons_zero, List.set_cons_succ]; go_big_quiet_on) | go_big_quiet_step (fail))
  refine wpQuiet_nil ?_
  refine wpAnyH_done (by kernel_rfl) ?_ _
  refine NoPanic.normal ?_
  replace hB := Lib.hid (below_on hB.out hbU4)
  clear hbU1 hbU2 hbU3 hbU4 hA1 hA2
  go_wp2_with fail
  go_ret2
  exact ⟨hB.out, A2, d2, A4, d4, rfl, hs2.out, hs4.out, hl2'.out, hl4'.out⟩
end Go.Proofs.Ythbagegkcpblgaa
