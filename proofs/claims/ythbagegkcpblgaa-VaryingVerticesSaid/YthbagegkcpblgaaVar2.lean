/- weights of the reference of chapter 37; ratios of both. -/
import Derived.Test.YthbagegkcpblgaaVar1
import Derived.Test.YthbagegkcpblgaaRWeights
import Derived.Test.YthbagegkcpblgaaFixR
namespace Go.Proofs.Ythbagegkcpblgaa
open Go.RowKit
attribute [local go_sem] Ext.cell
theorem ratio_bl (n d v : Int) (hv : ratio n d = v) (w : World) : Calls Try.prog 53 #[.int .i64 n, .int .i64 d] w fun e w' => e = .returned (.int .i64 v) ∧ Below w.heap.size w w' :=
  (ratio_at n d v hv w).mono fun _ _ ⟨h1, h2⟩ => ⟨h1, h2 ▸ Below.refl _ _⟩
set_option maxRecDepth 100000 in
set_option maxHeartbeats 8000000 in
theorem ratios_at (a b c r0 r1 : Int) (ha : 0 ≤ a) (hb : 0 ≤ b) (hc : 0 ≤ c) (ha' : a ≤ 1152921504606846976) (hb' : b ≤ 1152921504606846976) (hc' : c ≤ 1152921504606846976) (h0 : ratio a (a + b + c) = r0) (h1 : ratio b (a + b + c) = r1) (w : World) :
    Calls Try.prog 39 #[.agg #[.int .i64 a, .int .i64 b, .int .i64 c]] w fun e w' => e = .returned (.agg #[.int .i64 r0, .int .i64 r1]) ∧ Below w.heap.size w w' := by
  have hk := Lib.hid ((Blk.new w 36 #[.int .i64 a, .int .i64 b, .int .i64 c]).alloc (.cells #[.int .i64 0, .int .i64 0] 28))
  have hr := Lib.hid (Blk.new1 w 28 #[.int .i64 0, .int .i64 0] (.cells #[.int .i64 a, .int .i64 b, .int .i64 c] 36))
  have hB : Hid (Below w.heap.size w ((w.alloc (.cells #[.int .i64 a, .int .i64 b, .int .i64 c] 36)).alloc (.cells #[.int .i64 0, .int .i64 0] 28))) := Lib.hid (by go_grown)
  have hs0 : IntKind.i64.wrap (a + b) = a + b := by rw [IntKind.wrap_i64]; omega
  have hs1 : IntKind.i64.wrap (a + b + c) = a + b + c := by rw [IntKind.wrap_i64]; omega
  have hR0 := Lib.hid (fun w => ratio_bl a (a + b + c) r0 h0 w)
  have hR1 := Lib.hid (fun w => ratio_bl b (a + b + c) r1 h1 w)
  clear h0 h1 ha hb hc ha' hb' hc'
  have hck := hk.out.cell
  go_enter Try.func39, Try.ntmps39
  go_wp2_with fail
  have lk := hk.out.lt
  have lr := hr.out.lt
  obtain ⟨sm, hsm⟩ : ∃ s, a + b + c = s := ⟨_, rfl⟩
  try rw [hsm] at hR0 hR1
  try rw [hsm]
  generalize (w.alloc (.cells #[.int .i64 a, .int .i64 b, .int .i64 c] 36)).alloc (.cells #[.int .i64 0, .int .i64 0] 28) = W0 at *
  refine wp_region_noPanic ?_
  refine wp_region_held_drew (S := fun w' => ∃ n : Ext W0 (w.heap.size + 1), w' = n.val) (by kernel_rfl) ⟨⟨W0.drew, (Below.refl _ _).drew⟩, rfl⟩ (fun _ => ?_)
  refine held_quiets (fun _ _ _ _ _ h => h) (by kernel_rfl) ⟨⟨_, (((Below.refl _ _).drew).mono (Nat.le_of_lt lr))⟩, rfl⟩ [0, 1, 2, 4, 5, 6] _ _ _ (by kernel_rfl) (by kernel_rfl) (of_decide_eq_true (by kernel_rfl)) ?_
  simp only [List.filterMap, List.getElem?_toArray, List.getElem?_cons_succ, List.getElem?_cons_zero]
  repeat (first | go_big_quiet_step (fail))
  refine wpQuiet_nil ?_
  refine held_heavy (i := 3) (by kernel_rfl) rfl (by rfl) (of_decide_eq_true (by kernel_rfl)) (fun K hK => ?_)
  go_simp
  refine (hR0.out _).mono ?_
  rintro e U1 ⟨rfl, hv1⟩
  have hbU1 : Below W0.heap.size W0 U1 := (((Below.refl _ _).drew).trans (hv1.mono (Nat.le_refl _)))
  refine hK _ _ ⟨⟨U1, (hbU1.mono (Nat.le_of_lt lr))⟩, rfl⟩ ?_
  clear hK K
  try simp only [Act.put, List.setIfInBounds_toArray, List.set_cons_zero, List.set_cons_succ]
  refine held_heavy (i := 7) (by kernel_rfl) rfl (by rfl) (of_decide_eq_true (by kernel_rfl)) (fun K hK => ?_)
  go_simp
  refine (hR1.out _).mono ?_
  rintro e U2 ⟨rfl, hv2⟩
  have hbU2 : Below W0.heap.size W0 U2 := (below_on hbU1 hv2)
  refine hK _ _ ⟨⟨U2, (hbU2.mono (Nat.le_of_lt lr))⟩, rfl⟩ ?_
  clear hK K
  try simp only [Act.put, List.setIfInBounds_toArray, List.set_cons_zero, List.set_cons_succ]
  refine held_quiets (fun _ _ _ _ _ h => h) (by kernel_rfl) ⟨⟨_, (hbU2.mono (Nat.le_of_lt lr))⟩, rfl⟩ [8] _ _ _ (by kernel_rfl) (by kernel_rfl) (of_decide_eq_true (by kernel_rfl)) ?_
  simp only [List.filterMap, List.getElem?_toArray, List.getElem?_cons_succ, List.getElem?_cons_zero]
  repeat (first | go_big_quiet_step (fail))
  refine wpQuiet_nil ?_
  refine held_heavy (i := 9) (by kernel_rfl) rfl (by rfl) (of_decide_eq_true (by kernel_rfl)) (fun K hK => ?_)
  refine wp_store_row 28 _ _ rfl (w.heap.size + 1) #[.int .i64 r0, .int .i64 r1] rfl rfl 28 _ (hr.out.call hbU2) i2Info rfl (by kernel_rfl) ?_
  refine hK _ _ ⟨⟨_, (below_setRow (hbU2.mono (Nat.le_of_lt lr)) (Nat.le_refl _) #[.int .i64 r0, .int .i64 r1])⟩, rfl⟩ ?_
  clear hK K
  simp only [Act.put]
  refine wpAnyH_done (by kernel_rfl) ?_ _
  refine NoPanic.normal ?_
  go_wp2
  refine bodyPost_ret (results_cell_row rfl _ _ (w.heap.size + 1) _ #[.int .i64 r0, .int .i64 r1] _ _ rfl ((hr.out.call hbU2).setRow _) Try.underlying28 rfl i2Info) rfl ?_
  exact ⟨rfl, below_setRow (below_on hB.out hbU2) (by omega) _⟩
set_option maxRecDepth 100000 in
set_option maxHeartbeats 8000000 in
theorem rRatios_at (a b c r0 r1 : Int) (ha : 0 ≤ a) (hb : 0 ≤ b) (hc : 0 ≤ c) (ha' : a ≤ 1152921504606846976) (hb' : b ≤ 1152921504606846976) (hc' : c ≤ 1152921504606846976) (h0 : ratio a (a + b + c) = r0) (h1 : ratio b (a + b + c) = r1) (w : World) :
    Calls Try.prog 41 #[.agg #[.int .i64 a, .int .i64 b, .int .i64 c]] w fun e w' => e = .returned (.agg #[.int .i64 r0, .int .i64 r1]) ∧ Below w.heap.size w w' := by
  have hk := Lib.hid ((Blk.new w 36 #[.int .i64 a, .int .i64 b, .int .i64 c]).alloc (.cells #[.int .i64 0, .int .i64 0] 28))
  have hr := Lib.hid (Blk.new1 w 28 #[.int .i64 0, .int .i64 0] (.cells #[.int .i64 a, .int .i64 b, .int .i64 c] 36))
  have hB : Hid (Below w.heap.size w ((w.alloc (.cells #[.int .i64 a, .int .i64 b, .int .i64 c] 36)).alloc (.cells #[.int .i64 0, .int .i64 0] 28))) := Lib.hid (by go_grown)
  have hs0 : IntKind.i64.wrap (a + b) = a + b := by rw [IntKind.wrap_i64]; omega
  have hs1 : IntKind.i64.wrap (a + b + c) = a + b + c := by rw [IntKind.wrap_i64]; omega
  have hR0 := Lib.hid (fun w => r_ratio_at a (a + b + c) r0 h0 w)
  have hR1 := Lib.hid (fun w => r_ratio_at b (a + b + c) r1 h1 w)
  clear h0 h1 ha hb hc ha' hb' hc'
  have hck := hk.out.cell
  go_enter Try.func41, Try.ntmps41
  go_wp2_with fail
  have lk := hk.out.lt
  have lr := hr.out.lt
  obtain ⟨sm, hsm⟩ : ∃ s, a + b + c = s := ⟨_, rfl⟩
  try rw [hsm] at hR0 hR1
  try rw [hsm]
  generalize (w.alloc (.cells #[.int .i64 a, .int .i64 b, .int .i64 c] 36)).alloc (.cells #[.int .i64 0, .int .i64 0] 28) = W0 at *
  refine wp_region_noPanic ?_
  refine wp_region_held_drew (S := fun w' => ∃ n : Ext W0 (w.heap.size + 1), w' = n.val) (by kernel_rfl) ⟨⟨W0.drew, (Below.refl _ _).drew⟩, rfl⟩ (fun _ => ?_)
  refine held_quiets (fun _ _ _ _ _ h => h) (by kernel_rfl) ⟨⟨_, (((Below.refl _ _).drew).mono (Nat.le_of_lt lr))⟩, rfl⟩ [0, 1, 2, 4, 5, 6] _ _ _ (by kernel_rfl) (by kernel_rfl) (of_decide_eq_true (by kernel_rfl)) ?_
  simp only [List.filterMap, List.getElem?_toArray, List.getElem?_cons_succ, List.getElem?_cons_zero]
  repeat (first | go_big_quiet_step (fail))
  refine wpQuiet_nil ?_
  refine held_heavy (i := 3) (by kernel_rfl) rfl (by rfl) (of_decide_eq_true (by kernel_rfl)) (fun K hK => ?_)
  go_simp
  refine (hR0.out _).mono ?_
  rintro e U1 ⟨rfl, hv1⟩
  have hbU1 : Below W0.heap.size W0 U1 := (((Below.refl _ _).drew).trans (hv1.mono (Nat.le_refl _)))
  refine hK _ _ ⟨⟨U1, (hbU1.mono (Nat.le_of_lt lr))⟩, rfl⟩ ?_
  clear hK K
  try simp only [Act.put, List.setIfInBounds_toArray, List.set_cons_zero, List.set_cons_succ]
  refine held_heavy (i := 7) (by kernel_rfl) rfl (by rfl) (of_decide_eq_true (by kernel_rfl)) (fun K hK => ?_)
  go_simp
  refine (hR1.out _).mono ?_
  rintro e U2 ⟨rfl, hv2⟩
  have hbU2 : Below W0.heap.size W0 U2 := (below_on hbU1 hv2)
  refine hK _ _ ⟨⟨U2, (hbU2.mono (Nat.le_of_lt lr))⟩, rfl⟩ ?_
  clear hK K
  try simp only [Act.put, List.setIfInBounds_toArray, List.set_cons_zero, List.set_cons_succ]
  refine held_quiets (fun _ _ _ _ _ h => h) (by kernel_rfl) ⟨⟨_, (hbU2.mono (Nat.le_of_lt lr))⟩, rfl⟩ [8] _ _ _ (by kernel_rfl) (by kernel_rfl) (of_decide_eq_true (by kernel_rfl)) ?_
  simp only [List.filterMap, List.getElem?_toArray, List.getElem?_cons_succ, List.getElem?_cons_zero]
  repeat (first | go_big_quiet_step (fail))
  refine wpQuiet_nil ?_
  refine held_heavy (i := 9) (by kernel_rfl) rfl (by rfl) (of_decide_eq_true (by kernel_rfl)) (fun K hK => ?_)
  refine wp_store_row 28 _ _ rfl (w.heap.size + 1) #[.int .i64 r0, .int .i64 r1] rfl rfl 28 _ (hr.out.call hbU2) i2Info rfl (by kernel_rfl) ?_
  refine hK _ _ ⟨⟨_, (below_setRow (hbU2.mono (Nat.le_of_lt lr)) (Nat.le_refl _) #[.int .i64 r0, .int .i64 r1])⟩, rfl⟩ ?_
  clear hK K
  simp only [Act.put]
  refine wpAnyH_done (by kernel_rfl) ?_ _
  refine NoPanic.normal ?_
  go_wp2
  refine bodyPost_ret (results_cell_row rfl _ _ (w.heap.size + 1) _ #[.int .i64 r0, .int .i64 r1] _ _ rfl ((hr.out.call hbU2).setRow _) Try.underlying28 rfl i2Info) rfl ?_
  exact ⟨rfl, below_setRow (below_on hB.out hbU2) (by omega) _⟩
theorem rWeights_at (x0 y0 z0 u0 x1 y1 z1 u1 x2 y2 z2 u2 : Int) (A0 A1 A2 : Option Addr) (n0 c0 n1 c1 n2 c2 : Nat) (pr : Int) (fr : Bool) (px py : Int) (w : World) (e0 e1 e2 : Int) (h0 : wtI (validB x0 y0 x1 y1 x2 y2) x1 y1 x2 y2 px py = e0) (h1 : wtI (validB x0 y0 x1 y1 x2 y2) x2 y2 x0 y0 px py = e1) (h2 : wtI (validB x0 y0 x1 y1 x2 y2) x0 y0 x1 y1 px py = e2) :
    Calls Try.prog 56 #[.agg #[.int .i64 x0, .int .i64 y0, .int .i64 z0, .int .i64 u0, .slice A0 n0 c0, .int .i64 x1, .int .i64 y1, .int .i64 z1, .int .i64 u1, .slice A1 n1 c1, .int .i64 x2, .int .i64 y2, .int .i64 z2, .int .i64 u2, .slice A2 n2 c2, .int .i64 pr, .bool fr], .int .i64 px, .int .i64 py] w fun e w' => e = .returned (.tuple #[.agg #[.int .i64 e0, .int .i64 e1, .int .i64 e2], .int .i64 (e0 + e1 + e2)]) ∧ Below w.heap.size w w' := by
  subst h0 h1 h2
  exact rWeights_any x0 y0 z0 u0 x1 y1 z1 u1 x2 y2 z2 u2 A0 A1 A2 n0 c0 n1 c1 n2 c2 pr fr px py w
set_option maxRecDepth 100000 in
set_option maxHeartbeats 8000000 in
theorem rvweights_at (x0 y0 z0 u0 x1 y1 z1 u1 x2 y2 z2 u2 : Int) (A0 A1 A2 : Option Addr) (n0 c0 n1 c1 n2 c2 : Nat) (pr : Int) (fr : Bool) (px py : Int) (w : World) (m0 m1 m2 : Int) (h0 : max 0 (wtI (validB x0 y0 x1 y1 x2 y2) x1 y1 x2 y2 px py) = m0) (h1 : max 0 (wtI (validB x0 y0 x1 y1 x2 y2) x2 y2 x0 y0 px py) = m1) (h2 : max 0 (wtI (validB x0 y0 x1 y1 x2 y2) x0 y0 x1 y1 px py) = m2) :
    Calls Try.prog 42 #[.agg #[.int .i64 x0, .int .i64 y0, .int .i64 z0, .int .i64 u0, .slice A0 n0 c0, .int .i64 x1, .int .i64 y1, .int .i64 z1, .int .i64 u1, .slice A1 n1 c1, .int .i64 x2, .int .i64 y2, .int .i64 z2, .int .i64 u2, .slice A2 n2 c2, .int .i64 pr, .bool fr], .int .i64 px, .int .i64 py] w fun e w' => e = .returned (.agg #[.int .i64 m0, .int .i64 m1, .int .i64 m2]) ∧ Below w.heap.size w w' := by
  obtain ⟨e0, g0⟩ : ∃ e, wtI (validB x0 y0 x1 y1 x2 y2) x1 y1 x2 y2 px py = e := ⟨_, rfl⟩
  obtain ⟨e1, g1⟩ : ∃ e, wtI (validB x0 y0 x1 y1 x2 y2) x2 y2 x0 y0 px py = e := ⟨_, rfl⟩
  obtain ⟨e2, g2⟩ : ∃ e, wtI (validB x0 y0 x1 y1 x2 y2) x0 y0 x1 y1 px py = e := ⟨_, rfl⟩
  rw [g0] at h0
  rw [g1] at h1
  rw [g2] at h2
  have hW := Lib.hid (fun w => rWeights_at x0 y0 z0 u0 x1 y1 z1 u1 x2 y2 z2 u2 A0 A1 A2 n0 c0 n1 c1 n2 c2 pr fr px py w e0 e1 e2 g0 g1 g2)
  clear g0 g1 g2
  have k0 : (if 0 < e0 then e0 else 0) = m0 := by omega
  have k1 : (if 0 < e1 then e1 else 0) = m1 := by omega
  have k2 : (if 0 < e2 then e2 else 0) = m2 := by omega
  clear h0 h1 h2
  have hk := Lib.hid ((Blk.new w 27 #[.int .i64 x0, .int .i64 y0, .int .i64 z0, .int .i64 u0, .slice A0 n0 c0, .int .i64 x1, .int .i64 y1, .int .i64 z1, .int .i64 u1, .slice A1 n1 c1, .int .i64 x2, .int .i64 y2, .int .i64 z2, .int .i64 u2, .slice A2 n2 c2, .int .i64 pr, .bool fr]).alloc (.cells #[.int .i64 0, .int .i64 0, .int .i64 0] 36))
  have hr := Lib.hid (Blk.new1 w 36 #[.int .i64 0, .int .i64 0, .int .i64 0] (.cells #[.int .i64 x0, .int .i64 y0, .int .i64 z0, .int .i64 u0, .slice A0 n0 c0, .int .i64 x1, .int .i64 y1, .int .i64 z1, .int .i64 u1, .slice A1 n1 c1, .int .i64 x2, .int .i64 y2, .int .i64 z2, .int .i64 u2, .slice A2 n2 c2, .int .i64 pr, .bool fr] 27))
  have hB : Hid (Below w.heap.size w ((w.alloc (.cells #[.int .i64 x0, .int .i64 y0, .int .i64 z0, .int .i64 u0, .slice A0 n0 c0, .int .i64 x1, .int .i64 y1, .int .i64 z1, .int .i64 u1, .slice A1 n1 c1, .int .i64 x2, .int .i64 y2, .int .i64 z2, .int .i64 u2, .slice A2 n2 c2, .int .i64 pr, .bool fr] 27)).alloc (.cells #[.int .i64 0, .int .i64 0, .int .i64 0] 36))) := Lib.hid (by go_grown)
  go_enter Try.func42, Try.ntmps42
  go_wp2_with (refine wpList_load_row rfl 27 _ rfl _ rfl _ _ _ _ hk.out Try.underlying27 rfl triInfo ?_)
  refine (hW.out _).mono ?_
  rintro e W1 ⟨rfl, hb⟩
  replace hr := Lib.hid (hr.out.call hb)
  replace hB := Lib.hid (below_on hB.out hb)
  clear hb hk hW
  have hz := hr.out.lt
  obtain ⟨g, hgg⟩ : ∃ g, W1.heap.size = g := ⟨_, rfl⟩
  have hg := Lib.hid (Blk.new W1 36 #[.int .i64 e0, .int .i64 e1, .int .i64 e2])
  replace hr := Lib.hid (hr.out.alloc (.cells #[.int .i64 e0, .int .i64 e1, .int .i64 e2] 36))
  replace hB := Lib.hid (hB.out.alloc hB.out.size (.cells #[.int .i64 e0, .int .i64 e1, .int .i64 e2] 36))
  go_upto_region 2 with fail
  simp only [hgg] at hg hr hB hz ⊢
  generalize W1.alloc (.cells #[.int .i64 e0, .int .i64 e1, .int .i64 e2] 36) = X at *
  clear hgg
  have hc := hg.out.cell
  go_wp2_with (refine wpList_store_row rfl 36 _ _ rfl (w.heap.size + 1) #[.int .i64 m0, .int .i64 m1, .int .i64 m2] rfl rfl 36 _ hr.out i3Info rfl (by kernel_rfl) ?_)
  refine bodyPost_ret (results_cell_row rfl _ _ (w.heap.size + 1) _ #[.int .i64 m0, .int .i64 m1, .int .i64 m2] _ _ rfl (hr.out.setRow _) Try.underlying36 rfl i3Info) rfl ?_
  exact ⟨rfl, below_setRow hB.out (by omega) _⟩
end Go.Proofs.Ythbagegkcpblgaa
