/- VaryingValues returns true, where the first list is of at most 1048576 numbers. -/
import Derived.Test.YthbagegkcpblgaaVar13
import Derived.Test.YthbagegkcpblgaaVar14
namespace Go.Proofs.Ythbagegkcpblgaa
open Go.RowKit
attribute [local go_sem] Ext.cell
set_option maxRecDepth 100000 in
set_option maxHeartbeats 16000000 in
theorem law_values (x0 y0 z0 u0 x1 y1 z1 u1 x2 y2 z2 u2 : Int) (A0 A1 A2 : Option Addr) (n0 c0 n1 c1 n2 c2 : Nat) (pr : Int) (fr : Bool) (px py p q : Int) (w : World) (hs0 : n0 ≤ 1048576) (hn1 : n1 ≤ 17592186043904) (hn2 : n2 ≤ 17592186043904) (f0 f1 f2 : Nat → Int) (k0 : Sl w A0 n0 c0 f0) (k1 : Sl w A1 n1 c1 f1) (k2 : Sl w A2 n2 c2 f2) :
    Calls Try.prog 3 #[.agg #[.int .i64 x0, .int .i64 y0, .int .i64 z0, .int .i64 u0, .slice A0 n0 c0, .int .i64 x1, .int .i64 y1, .int .i64 z1, .int .i64 u1, .slice A1 n1 c1, .int .i64 x2, .int .i64 y2, .int .i64 z2, .int .i64 u2, .slice A2 n2 c2, .int .i64 pr, .bool fr], .agg #[.int .i64 px, .int .i64 py], .agg #[.int .i64 p, .int .i64 q]] w fun e w' => e = .returned (.bool true) ∧ Below w.heap.size w w' := by
  have hn0 : n0 ≤ 17592186043904 := by omega
  obtain ⟨u, hu⟩ : ∃ u, clampI p 0 63 = u := ⟨_, rfl⟩
  obtain ⟨v, hv⟩ : ∃ v, clampI q 0 63 = v := ⟨_, rfl⟩
  obtain ⟨x, hx⟩ : ∃ x, clampI p 0 62 = x := ⟨_, rfl⟩
  obtain ⟨y, hy⟩ : ∃ y, clampI q 0 62 = y := ⟨_, rfl⟩
  have bu : 0 ≤ u ∧ u ≤ 63 := by unfold clampI at hu; omega
  have bv : 0 ≤ v ∧ v ≤ 63 := by unfold clampI at hv; omega
  obtain ⟨t0, t1, hP, hP'⟩ := per_ex x0 y0 z0 u0 x1 y1 z1 u1 x2 y2 z2 u2 A0 A1 A2 n0 c0 n1 c1 n2 c2 pr fr px py
  obtain ⟨s0, s1, hC, hC'⟩ := per_ex x0 y0 z0 u0 x1 y1 z1 u1 x2 y2 z2 u2 A0 A1 A2 n0 c0 n1 c1 n2 c2 pr fr (u * 256 + 128) (v * 256 + 128)
  obtain ⟨r0, r1, hQ0, hQ0'⟩ := per_ex x0 y0 z0 u0 x1 y1 z1 u1 x2 y2 z2 u2 A0 A1 A2 n0 c0 n1 c1 n2 c2 pr fr (x * 256 + 128) (y * 256 + 128)
  obtain ⟨a0, a1, hQ1, hQ1'⟩ := per_ex x0 y0 z0 u0 x1 y1 z1 u1 x2 y2 z2 u2 A0 A1 A2 n0 c0 n1 c1 n2 c2 pr fr ((x + 1) * 256 + 128) (y * 256 + 128)
  obtain ⟨b0, b1, hQ2, hQ2'⟩ := per_ex x0 y0 z0 u0 x1 y1 z1 u1 x2 y2 z2 u2 A0 A1 A2 n0 c0 n1 c1 n2 c2 pr fr (x * 256 + 128) ((y + 1) * 256 + 128)
  obtain ⟨N, hN⟩ : ∃ N, (if validB x0 y0 x1 y1 x2 y2 = true then n0 else 0) = N := ⟨_, rfl⟩
  have hNb : N ≤ 1048576 := by rw [← hN]; split <;> omega
  have hNn : N ≤ 17592186043904 := by omega
  obtain ⟨M, hM⟩ : ∃ M, N + N + N = M := ⟨_, rfl⟩
  have h3 : M ≤ 17592186044416 := by omega
  obtain ⟨U, hU⟩ : ∃ U : Nat → Int, ∀ k, fsub ((valsAt a0 a1 n1 n2 f0 f1 f2) k) ((valsAt r0 r1 n1 n2 f0 f1 f2) k) = U k := ⟨_, fun _ => rfl⟩
  obtain ⟨V, hV⟩ : ∃ V : Nat → Int, ∀ k, fsub ((valsAt b0 b1 n1 n2 f0 f1 f2) k) ((valsAt r0 r1 n1 n2 f0 f1 f2) k) = V k := ⟨_, fun _ => rfl⟩
  obtain ⟨H, hH⟩ : ∃ H : Nat → Int, valsAt s0 s1 n1 n2 f0 f1 f2 = H := ⟨_, rfl⟩
  obtain ⟨T, hT⟩ : ∃ T : Nat → Int, valsAt t0 t1 n1 n2 f0 f1 f2 = T := ⟨_, rfl⟩
  obtain ⟨G, hG⟩ : ∃ G : Nat → Int, ∀ k, catI (N + N) (catI N H U) V k = G k := ⟨_, fun _ => rfl⟩
  have hVl := Lib.hid (fun w k0 k1 k2 => values_any x0 y0 z0 u0 x1 y1 z1 u1 x2 y2 z2 u2 A0 A1 A2 n0 c0 n1 c1 n2 c2 pr fr px py w hn0 hn1 hn2 f0 f1 f2 k0 k1 k2 t0 t1 hP N hN)
  have hVr := Lib.hid (fun w k0 k1 k2 => rValues_any x0 y0 z0 u0 x1 y1 z1 u1 x2 y2 z2 u2 A0 A1 A2 n0 c0 n1 c1 n2 c2 pr fr px py w hn0 hn1 hn2 f0 f1 f2 k0 k1 k2 t0 t1 hP' N hN)
  rw [hT] at hVl hVr
  have hAt := fun w k0 k1 k2 => vat_anyo x0 y0 z0 u0 x1 y1 z1 u1 x2 y2 z2 u2 A0 A1 A2 n0 c0 n1 c1 n2 c2 pr fr u v _ _ bu.1 bu.2 bv.1 bv.2 rfl rfl w hn0 hn1 hn2 f0 f1 f2 k0 k1 k2 s0 s1 hC N hN
  have hCe := fun w k0 k1 k2 => center_any x0 y0 z0 u0 x1 y1 z1 u1 x2 y2 z2 u2 A0 A1 A2 n0 c0 n1 c1 n2 c2 pr fr u v _ _ bu.1 bu.2 bv.1 bv.2 rfl rfl w hn0 hn1 hn2 f0 f1 f2 k0 k1 k2 s0 s1 hC' N hN
  rw [hH] at hAt hCe
  have hDl := fun w k0 k1 k2 => deriv_any x0 y0 z0 u0 x1 y1 z1 u1 x2 y2 z2 u2 A0 A1 A2 n0 c0 n1 c1 n2 c2 pr fr p q x y hx hy w hn0 hn1 hn2 f0 f1 f2 k0 k1 k2 r0 r1 a0 a1 b0 b1 hQ0 hQ1 hQ2 N hN U V hU hV
  have hDr := fun w k0 k1 k2 => rDeriv_any x0 y0 z0 u0 x1 y1 z1 u1 x2 y2 z2 u2 A0 A1 A2 n0 c0 n1 c1 n2 c2 pr fr p q x y hx hy w hn0 hn1 hn2 f0 f1 f2 k0 k1 k2 r0 r1 a0 a1 b0 b1 hQ0' hQ1' hQ2' N hN U V hU hV
  have hIl := Lib.hid (fun w k0 k1 k2 => inputs_at x0 y0 z0 u0 x1 y1 z1 u1 x2 y2 z2 u2 A0 A1 A2 n0 c0 n1 c1 n2 c2 pr fr p q u v hu hv w f0 f1 f2 k0 k1 k2 N M hNn hM h3 H U V G hG hAt hDl)
  have hIr := Lib.hid (fun w k0 k1 k2 => rInputs_at x0 y0 z0 u0 x1 y1 z1 u1 x2 y2 z2 u2 A0 A1 A2 n0 c0 n1 c1 n2 c2 pr fr p q u v hu hv w f0 f1 f2 k0 k1 k2 N M hNn hM h3 H U V G hG hCe hDr)
  replace hDl := Lib.hid hDl
  replace hDr := Lib.hid hDr
  have hNs : N ≤ 4611686018427387904 := by omega
  have hMs : M ≤ 4611686018427387904 := by omega
  replace hNs := Lib.hid hNs
  replace hMs := Lib.hid hMs
  clear hu hv hx hy bu bv hP hP' hC hC' hQ0 hQ0' hQ1 hQ1' hQ2 hQ2' hN hNb hNn hM h3 hU hV hH hT hG hAt hCe hs0 hn0 hn1 hn2
  have hk := Lib.hid (((Blk.new w 27 #[.int .i64 x0, .int .i64 y0, .int .i64 z0, .int .i64 u0, .slice A0 n0 c0, .int .i64 x1, .int .i64 y1, .int .i64 z1, .int .i64 u1, .slice A1 n1 c1, .int .i64 x2, .int .i64 y2, .int .i64 z2, .int .i64 u2, .slice A2 n2 c2, .int .i64 pr, .bool fr]).alloc (.cells #[.int .i64 px, .int .i64 py] 28)).alloc (.cells #[.int .i64 p, .int .i64 q] 28))
  have hp := Lib.hid ((Blk.new1 w 28 #[.int .i64 px, .int .i64 py] (.cells #[.int .i64 x0, .int .i64 y0, .int .i64 z0, .int .i64 u0, .slice A0 n0 c0, .int .i64 x1, .int .i64 y1, .int .i64 z1, .int .i64 u1, .slice A1 n1 c1, .int .i64 x2, .int .i64 y2, .int .i64 z2, .int .i64 u2, .slice A2 n2 c2, .int .i64 pr, .bool fr] 27)).alloc (.cells #[.int .i64 p, .int .i64 q] 28))
  have hq : Hid (Blk (((w.alloc (.cells #[.int .i64 x0, .int .i64 y0, .int .i64 z0, .int .i64 u0, .slice A0 n0 c0, .int .i64 x1, .int .i64 y1, .int .i64 z1, .int .i64 u1, .slice A1 n1 c1, .int .i64 x2, .int .i64 y2, .int .i64 z2, .int .i64 u2, .slice A2 n2 c2, .int .i64 pr, .bool fr] 27)).alloc (.cells #[.int .i64 px, .int .i64 py] 28)).alloc (.cells #[.int .i64 p, .int .i64 q] 28)) (w.heap.size + 2) 28 #[.int .i64 p, .int .i64 q]) := Lib.hid (Blk.new_at (by simp))
  have hB : Hid (Below w.heap.size w (((w.alloc (.cells #[.int .i64 x0, .int .i64 y0, .int .i64 z0, .int .i64 u0, .slice A0 n0 c0, .int .i64 x1, .int .i64 y1, .int .i64 z1, .int .i64 u1, .slice A1 n1 c1, .int .i64 x2, .int .i64 y2, .int .i64 z2, .int .i64 u2, .slice A2 n2 c2, .int .i64 pr, .bool fr] 27)).alloc (.cells #[.int .i64 px, .int .i64 py] 28)).alloc (.cells #[.int .i64 p, .int .i64 q] 28))) := Lib.hid (by go_grown)
  replace k0 := Lib.hid (k0.call hB.out)
  replace k1 := Lib.hid (k1.call hB.out)
  replace k2 := Lib.hid (k2.call hB.out)
  go_enter Try.func3, Try.ntmps3
  go_upto_region 1 with fail
  generalize (((w.alloc (.cells #[.int .i64 x0, .int .i64 y0, .int .i64 z0, .int .i64 u0, .slice A0 n0 c0, .int .i64 x1, .int .i64 y1, .int .i64 z1, .int .i64 u1, .slice A1 n1 c1, .int .i64 x2, .int .i64 y2, .int .i64 z2, .int .i64 u2, .slice A2 n2 c2, .int .i64 pr, .bool fr] 27)).alloc (.cells #[.int .i64 px, .int .i64 py] 28)).alloc (.cells #[.int .i64 p, .int .i64 q] 28)) = X at *
  have cq := hq.out.cell
  have lq := hq.out.lt
  go_wp2_with (refine wpList_load_row rfl 27 _ rfl _ rfl _ _ _ _ hk.out Try.underlying27 rfl triInfo ?_)
  refine (hDl.out _ k0.out k1.out k2.out).mono ?_
  rintro e W1 ⟨hb, D, g1, E, g2, rfl, hd1, hd2, -, -⟩
  replace hk := Lib.hid (hk.out.call hb)
  replace hp := Lib.hid (hp.out.call hb)
  replace hq := Lib.hid (hq.out.call hb)
  replace k0 := Lib.hid (k0.out.call hb)
  replace k1 := Lib.hid (k1.out.call hb)
  replace k2 := Lib.hid (k2.out.call hb)
  replace hB := Lib.hid (below_on hB.out hb)
  clear hb
  replace hd1 := Lib.hid hd1
  replace hd2 := Lib.hid hd2
  clear hDl cq lq
  have cq := hq.out.cell
  have lq := hq.out.lt
  go_wp2_with (refine wpList_load_row rfl 27 _ rfl _ rfl _ _ _ _ hk.out Try.underlying27 rfl triInfo ?_)
  refine (hDr.out _ k0.out k1.out k2.out).mono ?_
  rintro e W2 ⟨hb, D', g1', E', g2', rfl, he1, he2, -, -⟩
  replace hk := Lib.hid (hk.out.call hb)
  replace hp := Lib.hid (hp.out.call hb)
  replace hq := Lib.hid (hq.out.call hb)
  replace k0 := Lib.hid (k0.out.call hb)
  replace k1 := Lib.hid (k1.out.call hb)
  replace k2 := Lib.hid (k2.out.call hb)
  replace hd1 := Lib.hid (hd1.out.call hb)
  replace hd2 := Lib.hid (hd2.out.call hb)
  replace hB := Lib.hid (below_on hB.out hb)
  clear hb
  replace he1 := Lib.hid he1
  replace he2 := Lib.hid he2
  clear hDr cq lq
  go_wp2_with fail
  have lk := hk.out.lt
  have cp := hp.out.cell
  have lp := hp.out.lt
  have cq := hq.out.cell
  have lq := hq.out.lt
  refine wp_region_noPanic ?_
  refine wp_region_held_drew (S := fun w' => ∃ n : Ext W2 (W2.heap.size), w' = n.val) (by kernel_rfl) ⟨⟨W2.drew, (Below.refl _ _).drew⟩, rfl⟩ (fun _ => ?_)
  refine held_quiets (fun _ _ _ _ _ h => h) (by kernel_rfl) ⟨⟨_, (((Below.refl _ _).drew).mono (Nat.le_refl _))⟩, rfl⟩ [0, 1, 2, 3, 4, 6, 7, 8, 9, 10] _ _ _ (by kernel_rfl) (by kernel_rfl) (of_decide_eq_true (by kernel_rfl)) ?_
  simp only [List.filterMap, List.getElem?_toArray, List.getElem?_cons_succ, List.getElem?_cons_zero]
  repeat (first | (go_big_quiet_want; refine quiet_load_row 27 _ rfl _ rfl _ _ _ hk.out (by first | assumption | omega) Try.underlying27 rfl triInfo ?_; simp only [Act.put, List.setIfInBounds_toArray, List.set_cons_zero, List.set_cons_succ]; go_big_quiet_on) | go_big_quiet_step (fail))
  refine wpQuiet_nil ?_
  refine held_heavy (i := 5) (by kernel_rfl) rfl (by rfl) (of_decide_eq_true (by kernel_rfl)) (fun K hK => ?_)
  go_simp
  refine (hVl.out _ k0.out.drew k1.out.drew k2.out.drew).mono ?_
  rintro e U1 ⟨hv1, A, c, rfl, hs1, -⟩
  have hbU1 : Below W2.heap.size W2 U1 := (((Below.refl _ _).drew).trans (hv1.mono (Nat.le_refl _)))
  replace hs1 := Lib.hid hs1
  replace hd1 := Lib.hid (hd1.out.call hbU1)
  replace hd2 := Lib.hid (hd2.out.call hbU1)
  replace he1 := Lib.hid (he1.out.call hbU1)
  replace he2 := Lib.hid (he2.out.call hbU1)
  refine hK _ _ ⟨⟨U1, (hbU1.mono (Nat.le_refl _))⟩, rfl⟩ ?_
  clear hK K
  try simp only [Act.put, List.setIfInBounds_toArray, List.set_cons_zero, List.set_cons_succ]
  refine held_heavy (i := 11) (by kernel_rfl) rfl (by rfl) (of_decide_eq_true (by kernel_rfl)) (fun K hK => ?_)
  go_simp
  refine (hVr.out _ (k0.out.call hbU1) (k1.out.call hbU1) (k2.out.call hbU1)).mono ?_
  rintro e U2 ⟨hv2, A', c', rfl, hs2, -⟩
  have hbU2 : Below W2.heap.size W2 U2 := (below_on hbU1 hv2)
  replace hs2 := Lib.hid hs2
  replace hs1 := Lib.hid (hs1.out.call hv2)
  replace hd1 := Lib.hid (hd1.out.call hv2)
  replace hd2 := Lib.hid (hd2.out.call hv2)
  replace he1 := Lib.hid (he1.out.call hv2)
  replace he2 := Lib.hid (he2.out.call hv2)
  refine hK _ _ ⟨⟨U2, (hbU2.mono (Nat.le_refl _))⟩, rfl⟩ ?_
  clear hK K
  try simp only [Act.put, List.setIfInBounds_toArray, List.set_cons_zero, List.set_cons_succ]
  refine held_heavy (i := 12) (by kernel_rfl) rfl (by rfl) (of_decide_eq_true (by kernel_rfl)) (fun K hK => ?_)
  go_simp
  refine (same_sl N hNs.out T A A' c c' _ hs1.out hs2.out).mono ?_
  rintro e U3 ⟨rfl, hv3⟩
  have hbU3 : Below W2.heap.size W2 U3 := (below_on hbU2 hv3)
  replace hd1 := Lib.hid (hd1.out.call hv3)
  replace hd2 := Lib.hid (hd2.out.call hv3)
  replace he1 := Lib.hid (he1.out.call hv3)
  replace he2 := Lib.hid (he2.out.call hv3)
  clear hs1 hs2
  refine hK _ _ ⟨⟨U3, (hbU3.mono (Nat.le_refl _))⟩, rfl⟩ ?_
  clear hK K
  try simp only [Act.put, List.setIfInBounds_toArray, List.set_cons_zero, List.set_cons_succ]
  refine held_quiets (fun _ _ _ _ _ h => h) (by kernel_rfl) ⟨⟨_, (hbU3.mono (Nat.le_refl _))⟩, rfl⟩ [13, 14, 15] _ _ _ (by kernel_rfl) (by kernel_rfl) (of_decide_eq_true (by kernel_rfl)) ?_
  simp only [List.filterMap, List.getElem?_toArray, List.getElem?_cons_succ, List.getElem?_cons_zero]
  repeat (first | (go_big_quiet_want; refine quiet_load_row 27 _ rfl _ rfl _ _ _ hk.out (by first | assumption | omega) Try.underlying27 rfl triInfo ?_; simp only [Act.put, List.setIfInBounds_toArray, List.set_cons_zero, List.set_cons_succ]; go_big_quiet_on) | go_big_quiet_step (fail))
  refine wpQuiet_nil ?_
  refine held_heavy (i := 16) (by kernel_rfl) rfl (by rfl) (of_decide_eq_true (by kernel_rfl)) (fun K hK => ?_)
  go_simp
  refine (same_sl N hNs.out U D D' g1 g1' _ hd1.out he1.out).mono ?_
  rintro e U4 ⟨rfl, hv4⟩
  have hbU4 : Below W2.heap.size W2 U4 := (below_on hbU3 hv4)
  replace hd2 := Lib.hid (hd2.out.call hv4)
  replace he2 := Lib.hid (he2.out.call hv4)
  clear hd1 he1
  refine hK _ _ ⟨⟨U4, (hbU4.mono (Nat.le_refl _))⟩, rfl⟩ ?_
  clear hK K
  try simp only [Act.put, List.setIfInBounds_toArray, List.set_cons_zero, List.set_cons_succ]
  refine held_quiets (fun _ _ _ _ _ h => h) (by kernel_rfl) ⟨⟨_, (hbU4.mono (Nat.le_refl _))⟩, rfl⟩ [17, 18, 19, 20] _ _ _ (by kernel_rfl) (by kernel_rfl) (of_decide_eq_true (by kernel_rfl)) ?_
  simp only [List.filterMap, List.getElem?_toArray, List.getElem?_cons_succ, List.getElem?_cons_zero]
  repeat (first | (go_big_quiet_want; refine quiet_load_row 27 _ rfl _ rfl _ _ _ hk.out (by first | assumption | omega) Try.underlying27 rfl triInfo ?_; simp only [Act.put, List.setIfInBounds_toArray, List.set_cons_zero, List.set_cons_succ]; go_big_quiet_on) | go_big_quiet_step (fail))
  refine wpQuiet_nil ?_
  refine held_heavy (i := 21) (by kernel_rfl) rfl (by rfl) (of_decide_eq_true (by kernel_rfl)) (fun K hK => ?_)
  go_simp
  refine (same_sl N hNs.out V E E' g2 g2' _ hd2.out he2.out).mono ?_
  rintro e U5 ⟨rfl, hv5⟩
  have hbU5 : Below W2.heap.size W2 U5 := (below_on hbU4 hv5)
  clear hd2 he2
  refine hK _ _ ⟨⟨U5, (hbU5.mono (Nat.le_refl _))⟩, rfl⟩ ?_
  clear hK K
  try simp only [Act.put, List.setIfInBounds_toArray, List.set_cons_zero, List.set_cons_succ]
  refine held_quiets (fun _ _ _ _ _ h => h) (by kernel_rfl) ⟨⟨_, (hbU5.mono (Nat.le_refl _))⟩, rfl⟩ [22, 23, 24, 25, 26, 27, 28, 30, 31, 32, 33, 34] _ _ _ (by kernel_rfl) (by kernel_rfl) (of_decide_eq_true (by kernel_rfl)) ?_
  simp only [List.filterMap, List.getElem?_toArray, List.getElem?_cons_succ, List.getElem?_cons_zero]
  repeat (first | (go_big_quiet_want; refine quiet_load_row 27 _ rfl _ rfl _ _ _ hk.out (by first | assumption | omega) Try.underlying27 rfl triInfo ?_; simp only [Act.put, List.setIfInBounds_toArray, List.set_cons_zero, List.set_cons_succ]; go_big_quiet_on) | go_big_quiet_step (fail))
  refine wpQuiet_nil ?_
  refine held_heavy (i := 29) (by kernel_rfl) rfl (by rfl) (of_decide_eq_true (by kernel_rfl)) (fun K hK => ?_)
  go_simp
  refine (hIl.out _ (k0.out.call hbU5) (k1.out.call hbU5) (k2.out.call hbU5)).mono ?_
  rintro e U6 ⟨hv6, B, d, rfl, hs1, -, -⟩
  have hbU6 : Below W2.heap.size W2 U6 := (below_on hbU5 hv6)
  replace hs1 := Lib.hid hs1
  refine hK _ _ ⟨⟨U6, (hbU6.mono (Nat.le_refl _))⟩, rfl⟩ ?_
  clear hK K
  try simp only [Act.put, List.setIfInBounds_toArray, List.set_cons_zero, List.set_cons_succ]
  refine held_heavy (i := 35) (by kernel_rfl) rfl (by rfl) (of_decide_eq_true (by kernel_rfl)) (fun K hK => ?_)
  go_simp
  refine (hIr.out _ (k0.out.call hbU6) (k1.out.call hbU6) (k2.out.call hbU6)).mono ?_
  rintro e U7 ⟨hv7, B', d', rfl, hs2, -, -⟩
  have hbU7 : Below W2.heap.size W2 U7 := (below_on hbU6 hv7)
  replace hs2 := Lib.hid hs2
  replace hs1 := Lib.hid (hs1.out.call hv7)
  refine hK _ _ ⟨⟨U7, (hbU7.mono (Nat.le_refl _))⟩, rfl⟩ ?_
  clear hK K
  try simp only [Act.put, List.setIfInBounds_toArray, List.set_cons_zero, List.set_cons_succ]
  refine held_heavy (i := 36) (by kernel_rfl) rfl (by rfl) (of_decide_eq_true (by kernel_rfl)) (fun K hK => ?_)
  go_simp
  refine (same_sl M hMs.out G B B' d d' _ hs1.out hs2.out).mono ?_
  rintro e U8 ⟨rfl, hv8⟩
  have hbU8 : Below W2.heap.size W2 U8 := (below_on hbU7 hv8)
  clear hs1 hs2
  refine hK _ _ ⟨⟨U8, (hbU8.mono (Nat.le_refl _))⟩, rfl⟩ ?_
  clear hK K
  try simp only [Act.put, List.setIfInBounds_toArray, List.set_cons_zero, List.set_cons_succ]
  refine held_quiets (fun _ _ _ _ _ h => h) (by kernel_rfl) ⟨⟨_, (hbU8.mono (Nat.le_refl _))⟩, rfl⟩ [37, 38] _ _ _ (by kernel_rfl) (by kernel_rfl) (of_decide_eq_true (by kernel_rfl)) ?_
  simp only [List.filterMap, List.getElem?_toArray, List.getElem?_cons_succ, List.getElem?_cons_zero]
  repeat (first | (go_big_quiet_want; refine quiet_load_row 27 _ rfl _ rfl _ _ _ hk.out (by first | assumption | omega) Try.underlying27 rfl triInfo ?_; simp only [Act.put, List.setIfInBounds_toArray, List.set_cons_zero, List.set_cons_succ]; go_big_quiet_on) | go_big_quiet_step (fail))
  refine wpQuiet_nil ?_
  refine held_heavy (i := 39) (by kernel_rfl) rfl (by rfl) (of_decide_eq_true (by kernel_rfl)) (fun K hK => ?_)
  go_simp
  refine (example_true _).mono ?_
  rintro e U9 ⟨rfl, hv9⟩
  have hbU9 : Below W2.heap.size W2 U9 := (below_on hbU8 hv9)
  refine hK _ _ ⟨⟨U9, (hbU9.mono (Nat.le_refl _))⟩, rfl⟩ ?_
  clear hK K
  try simp only [Act.put, List.setIfInBounds_toArray, List.set_cons_zero, List.set_cons_succ]
  refine held_quiets (fun _ _ _ _ _ h => h) (by kernel_rfl) ⟨⟨_, (hbU9.mono (Nat.le_refl _))⟩, rfl⟩ [40, 41] _ _ _ (by kernel_rfl) (by kernel_rfl) (of_decide_eq_true (by kernel_rfl)) ?_
  simp only [List.filterMap, List.getElem?_toArray, List.getElem?_cons_succ, List.getElem?_cons_zero]
  repeat (first | (go_big_quiet_want; refine quiet_load_row 27 _ rfl _ rfl _ _ _ hk.out (by first | assumption | omega) Try.underlying27 rfl triInfo ?_; simp only [Act.put, List.setIfInBounds_toArray, List.set_cons_zero, List.set_cons_succ]; go_big_quiet_on) | go_big_quiet_step (fail))
  refine wpQuiet_nil ?_
  refine wpAnyH_done (by kernel_rfl) ?_ _
  refine NoPanic.normal ?_
  replace hB := Lib.hid (below_on hB.out hbU9)
  go_wp2
  go_ret
  exact ⟨rfl, hB.out⟩
end Go.Proofs.Ythbagegkcpblgaa
