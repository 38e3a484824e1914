/- Orient of the reference of chapter 33. -/
import Derived.Test.YtboffbajmlkhiaaOrient
import Derived.Test.YtboffbajmlkhiaaAreaR
import Derived.Test.YtboffbajmlkhiaaChain
namespace Go.Proofs.Ytboffbajmlkhiaa
open Go.RowKit
attribute [local go_sem] Ext.cell
theorem rArea_at (x0 y0 z0 u0 x1 y1 z1 u1 x2 y2 z2 u2 : Int) (A0 A1 A2 : Option Addr) (n0 c0 n1 c1 n2 c2 : Nat) (w : World) (v : Int) (h : areaI x0 y0 x1 y1 x2 y2 = v) :
    Calls Try.prog 12 #[.agg #[.int .i64 x0, .int .i64 y0, .int .i64 z0, .int .i64 u0, .slice A0 n0 c0, .int .i64 x1, .int .i64 y1, .int .i64 z1, .int .i64 u1, .slice A1 n1 c1, .int .i64 x2, .int .i64 y2, .int .i64 z2, .int .i64 u2, .slice A2 n2 c2]] w fun e w' => e = .returned (.int .i64 v) ∧ Below w.heap.size w w' := h ▸ rArea_any _ _ _ _ _ _ _ _ _ _ _ _ _ _ _ _ _ _ _ _ _ _
set_option maxRecDepth 100000 in
set_option maxHeartbeats 16000000 in
theorem rOrient_keep (x0 y0 z0 u0 x1 y1 z1 u1 x2 y2 z2 u2 : Int) (n0 n1 n2 : Nat) (h0 : n0 ≤ 17592186043904) (h1 : n1 ≤ 17592186043904) (h2 : n2 ≤ 17592186043904) (f0 f1 f2 : Nat → Int) (A0 A1 A2 : Option Addr) (c0 c1 c2 : Nat) (w : World) (k0 : Sl w A0 n0 c0 f0) (k1 : Sl w A1 n1 c1 f1) (k2 : Sl w A2 n2 c2 f2) (hn : 0 ≤ areaI x0 y0 x1 y1 x2 y2) :
    Calls Try.prog 23 #[.agg #[.int .i64 x0, .int .i64 y0, .int .i64 z0, .int .i64 u0, .slice A0 n0 c0, .int .i64 x1, .int .i64 y1, .int .i64 z1, .int .i64 u1, .slice A1 n1 c1, .int .i64 x2, .int .i64 y2, .int .i64 z2, .int .i64 u2, .slice A2 n2 c2]] w fun e w' => Below w.heap.size w w' ∧ ∃ B0 B1 B2 d0 d1 d2, e = .returned (.agg #[.int .i64 x0, .int .i64 y0, .int .i64 z0, .int .i64 u0, .slice B0 n0 d0, .int .i64 x1, .int .i64 y1, .int .i64 z1, .int .i64 u1, .slice B1 n1 d1, .int .i64 x2, .int .i64 y2, .int .i64 z2, .int .i64 u2, .slice B2 n2 d2]) ∧ Sl w' B0 n0 d0 f0 ∧ Sl w' B1 n1 d1 f1 ∧ Sl w' B2 n2 d2 f2 ∧ (∀ a, B0 = some a → w.heap.size ≤ a.block) ∧ (∀ a, B1 = some a → w.heap.size ≤ a.block) ∧ (∀ a, B2 = some a → w.heap.size ≤ a.block) := by
  obtain ⟨a, har⟩ : ∃ a, areaI x0 y0 x1 y1 x2 y2 = a := ⟨_, rfl⟩
  rw [har] at hn
  replace har := Lib.hid har
  have ha := Lib.hid ((Blk.new w 25 #[.int .i64 x0, .int .i64 y0, .int .i64 z0, .int .i64 u0, .slice A0 n0 c0, .int .i64 x1, .int .i64 y1, .int .i64 z1, .int .i64 u1, .slice A1 n1 c1, .int .i64 x2, .int .i64 y2, .int .i64 z2, .int .i64 u2, .slice A2 n2 c2]).alloc (.cells #[.int .i64 0, .int .i64 0, .int .i64 0, .int .i64 0, .slice none 0 0, .int .i64 0, .int .i64 0, .int .i64 0, .int .i64 0, .slice none 0 0, .int .i64 0, .int .i64 0, .int .i64 0, .int .i64 0, .slice none 0 0] 25))
  have hb := Lib.hid (Blk.new1 w 25 #[.int .i64 0, .int .i64 0, .int .i64 0, .int .i64 0, .slice none 0 0, .int .i64 0, .int .i64 0, .int .i64 0, .int .i64 0, .slice none 0 0, .int .i64 0, .int .i64 0, .int .i64 0, .int .i64 0, .slice none 0 0] (.cells #[.int .i64 x0, .int .i64 y0, .int .i64 z0, .int .i64 u0, .slice A0 n0 c0, .int .i64 x1, .int .i64 y1, .int .i64 z1, .int .i64 u1, .slice A1 n1 c1, .int .i64 x2, .int .i64 y2, .int .i64 z2, .int .i64 u2, .slice A2 n2 c2] 25))
  have hB : Hid (Below w.heap.size w ((w.alloc (.cells #[.int .i64 x0, .int .i64 y0, .int .i64 z0, .int .i64 u0, .slice A0 n0 c0, .int .i64 x1, .int .i64 y1, .int .i64 z1, .int .i64 u1, .slice A1 n1 c1, .int .i64 x2, .int .i64 y2, .int .i64 z2, .int .i64 u2, .slice A2 n2 c2] 25)).alloc (.cells #[.int .i64 0, .int .i64 0, .int .i64 0, .int .i64 0, .slice none 0 0, .int .i64 0, .int .i64 0, .int .i64 0, .int .i64 0, .slice none 0 0, .int .i64 0, .int .i64 0, .int .i64 0, .int .i64 0, .slice none 0 0] 25))) := Lib.hid (by go_grown)
  replace k0 := Lib.hid (k0.call hB.out)
  replace k1 := Lib.hid (k1.call hB.out)
  replace k2 := Lib.hid (k2.call hB.out)
  go_enter Try.func23, Try.ntmps23
  go_wp2_with (refine wpList_load_row rfl 25 _ rfl _ rfl _ _ _ _ ha.out Try.underlying25 rfl t3Info ?_)
  refine (rArea_at _ _ _ _ _ _ _ _ _ _ _ _ _ _ _ _ _ _ _ _ _ _ _ har.out).mono ?_
  rintro e W0 ⟨rfl, hb2⟩
  replace ha := Lib.hid (ha.out.call hb2)
  replace hb := Lib.hid (hb.out.call hb2)
  replace hB := Lib.hid (below_on hB.out hb2)
  replace k0 := Lib.hid (k0.out.call hb2)
  replace k1 := Lib.hid (k1.out.call hb2)
  replace k2 := Lib.hid (k2.out.call hb2)
  clear hb2
  go_wp2_with fail
  have la := ha.out.lt
  refine wp_region_noPanic ?_
  refine wp_region_held_drew (S := fun w' => ∃ n : Ext W0 (w.heap.size + 1), w' = n.val) (by kernel_rfl) ⟨⟨W0.drew, (Below.refl _ _).drew⟩, rfl⟩ (fun _ => ?_)
  refine held_quiets (fun _ _ _ _ _ h => h) (by kernel_rfl) ⟨⟨_, (((Below.refl _ _).drew).mono (Nat.le_of_lt hb.out.lt))⟩, rfl⟩ [0, 1, 3, 4, 6, 7] _ _ _ (by kernel_rfl) (by kernel_rfl) (of_decide_eq_true (by kernel_rfl)) ?_
  simp only [List.filterMap, List.getElem?_toArray, List.getElem?_cons_succ, List.getElem?_cons_zero]
  repeat (first | (go_big_quiet_want; refine quiet_load_sub 24 _ rfl _ 0 rfl _ _ #[.int .i64 x0, .int .i64 y0, .int .i64 z0, .int .i64 u0, .slice A0 n0 c0] _ ha.out (by first | assumption | omega) rfl Try.underlying24 rfl vInfo ?_; simp only [Act.put, List.setIfInBounds_toArray, List.set_cons_zero, List.set_cons_succ]; go_big_quiet_on) | (go_big_quiet_want; refine quiet_load_sub 24 _ rfl _ 5 rfl _ _ #[.int .i64 x1, .int .i64 y1, .int .i64 z1, .int .i64 u1, .slice A1 n1 c1] _ ha.out (by first | assumption | omega) rfl Try.underlying24 rfl vInfo ?_; simp only [Act.put, List.setIfInBounds_toArray, List.set_cons_zero, List.set_cons_succ]; go_big_quiet_on) | (go_big_quiet_want; refine quiet_load_sub 24 _ rfl _ 10 rfl _ _ #[.int .i64 x2, .int .i64 y2, .int .i64 z2, .int .i64 u2, .slice A2 n2 c2] _ ha.out (by first | assumption | omega) rfl Try.underlying24 rfl vInfo ?_; simp only [Act.put, List.setIfInBounds_toArray, List.set_cons_zero, List.set_cons_succ]; go_big_quiet_on) | go_big_quiet_step (fail))
  refine wpQuiet_nil ?_
  refine held_heavy (i := 2) (by kernel_rfl) rfl (by rfl) (of_decide_eq_true (by kernel_rfl)) (fun K hK => ?_)
  go_simp
  refine (copied_sl x0 y0 z0 u0 n0 h0 f0 A0 c0 _ (k0.out.call (Below.refl _ _).drew)).mono ?_
  rintro e V0 ⟨hv0, B0, d0, rfl, s0, nb0⟩
  have hbV0 : Below W0.heap.size W0 V0 := (((Below.refl _ _).drew).trans (hv0.mono (Nat.le_refl _)))
  replace s0 := Lib.hid s0
  have b0 : Hid (∀ a, B0 = some a → w.heap.size + 1 < a.block) := Lib.hid (fun a e => Nat.lt_of_lt_of_le hb.out.lt (nb0 a e))
  clear nb0
  refine hK _ _ ⟨⟨V0, (hbV0.mono (Nat.le_of_lt hb.out.lt))⟩, rfl⟩ ?_
  clear hK K
  try simp only [Act.put, List.setIfInBounds_toArray, List.set_cons_zero, List.set_cons_succ]
  refine held_heavy (i := 5) (by kernel_rfl) rfl (by rfl) (of_decide_eq_true (by kernel_rfl)) (fun K hK => ?_)
  go_simp
  refine (copied_sl x1 y1 z1 u1 n1 h1 f1 A1 c1 _ (k1.out.call hbV0)).mono ?_
  rintro e V1 ⟨hv1, B1, d1, rfl, s1, nb1⟩
  have hbV1 : Below W0.heap.size W0 V1 := (below_on hbV0 hv1)
  replace s1 := Lib.hid s1
  replace s0 := Lib.hid (s0.out.call hv1)
  have b1 : Hid (∀ a, B1 = some a → w.heap.size + 1 < a.block) := Lib.hid (fun a e => Nat.lt_of_lt_of_le hb.out.lt (Nat.le_trans hbV0.size (nb1 a e)))
  clear nb1
  refine hK _ _ ⟨⟨V1, (hbV1.mono (Nat.le_of_lt hb.out.lt))⟩, rfl⟩ ?_
  clear hK K
  try simp only [Act.put, List.setIfInBounds_toArray, List.set_cons_zero, List.set_cons_succ]
  refine held_heavy (i := 8) (by kernel_rfl) rfl (by rfl) (of_decide_eq_true (by kernel_rfl)) (fun K hK => ?_)
  go_simp
  refine (copied_sl x2 y2 z2 u2 n2 h2 f2 A2 c2 _ (k2.out.call hbV1)).mono ?_
  rintro e V2 ⟨hv2, B2, d2, rfl, s2, nb2⟩
  have hbV2 : Below W0.heap.size W0 V2 := (below_on hbV1 hv2)
  replace s2 := Lib.hid s2
  replace s0 := Lib.hid (s0.out.call hv2)
  replace s1 := Lib.hid (s1.out.call hv2)
  have b2 : Hid (∀ a, B2 = some a → w.heap.size + 1 < a.block) := Lib.hid (fun a e => Nat.lt_of_lt_of_le hb.out.lt (Nat.le_trans hbV1.size (nb2 a e)))
  clear nb2
  refine hK _ _ ⟨⟨V2, (hbV2.mono (Nat.le_of_lt hb.out.lt))⟩, rfl⟩ ?_
  clear hK K
  try simp only [Act.put, List.setIfInBounds_toArray, List.set_cons_zero, List.set_cons_succ]
  refine held_quiets (fun _ _ _ _ _ h => h) (by kernel_rfl) ⟨⟨_, (hbV2.mono (Nat.le_of_lt hb.out.lt))⟩, rfl⟩ [9] _ _ _ (by kernel_rfl) (by kernel_rfl) (of_decide_eq_true (by kernel_rfl)) ?_
  simp only [List.filterMap, List.getElem?_toArray, List.getElem?_cons_succ, List.getElem?_cons_zero]
  repeat (first | (go_big_quiet_want; refine quiet_load_sub 24 _ rfl _ 0 rfl _ _ #[.int .i64 x0, .int .i64 y0, .int .i64 z0, .int .i64 u0, .slice A0 n0 c0] _ ha.out (by first | assumption | omega) rfl Try.underlying24 rfl vInfo ?_; simp only [Act.put, List.setIfInBounds_toArray, List.set_cons_zero, List.set_cons_succ]; go_big_quiet_on) | (go_big_quiet_want; refine quiet_load_sub 24 _ rfl _ 5 rfl _ _ #[.int .i64 x1, .int .i64 y1, .int .i64 z1, .int .i64 u1, .slice A1 n1 c1] _ ha.out (by first | assumption | omega) rfl Try.underlying24 rfl vInfo ?_; simp only [Act.put, List.setIfInBounds_toArray, List.set_cons_zero, List.set_cons_succ]; go_big_quiet_on) | (go_big_quiet_want; refine quiet_load_sub 24 _ rfl _ 10 rfl _ _ #[.int .i64 x2, .int .i64 y2, .int .i64 z2, .int .i64 u2, .slice A2 n2 c2] _ ha.out (by first | assumption | omega) rfl Try.underlying24 rfl vInfo ?_; simp only [Act.put, List.setIfInBounds_toArray, List.set_cons_zero, List.set_cons_succ]; go_big_quiet_on) | go_big_quiet_step (fail))
  refine wpQuiet_nil ?_
  refine held_heavy (i := 10) (by kernel_rfl) rfl (by rfl) (of_decide_eq_true (by kernel_rfl)) (fun K hK => ?_)
  refine wp_store_row 25 _ _ rfl (w.heap.size + 1) #[.int .i64 x0, .int .i64 y0, .int .i64 z0, .int .i64 u0, .slice B0 n0 d0, .int .i64 x1, .int .i64 y1, .int .i64 z1, .int .i64 u1, .slice B1 n1 d1, .int .i64 x2, .int .i64 y2, .int .i64 z2, .int .i64 u2, .slice B2 n2 d2] rfl rfl 25 _ (hb.out.call hbV2) t3Info rfl (by kernel_rfl) ?_
  refine hK _ _ ⟨⟨_, (below_setRow (hbV2.mono (Nat.le_of_lt hb.out.lt)) (Nat.le_refl _) #[.int .i64 x0, .int .i64 y0, .int .i64 z0, .int .i64 u0, .slice B0 n0 d0, .int .i64 x1, .int .i64 y1, .int .i64 z1, .int .i64 u1, .slice B1 n1 d1, .int .i64 x2, .int .i64 y2, .int .i64 z2, .int .i64 u2, .slice B2 n2 d2])⟩, rfl⟩ ?_
  clear hK K
  simp only [Act.put]
  refine wpAnyH_done (by kernel_rfl) ?_ _
  refine NoPanic.normal ?_
  go_wp2
  refine bodyPost_ret (results_cell_row rfl _ _ (w.heap.size + 1) _ #[.int .i64 x0, .int .i64 y0, .int .i64 z0, .int .i64 u0, .slice B0 n0 d0, .int .i64 x1, .int .i64 y1, .int .i64 z1, .int .i64 u1, .slice B1 n1 d1, .int .i64 x2, .int .i64 y2, .int .i64 z2, .int .i64 u2, .slice B2 n2 d2] _ _ rfl ((hb.out.call hbV2).setRow _) Try.underlying25 rfl t3Info) rfl ?_
  exact ⟨below_setRow (below_on hB.out hbV2) (by omega) _, B0, B1, B2, d0, d1, d2, rfl, s0.out.setRow (fun a e => by have := b0.out a e; omega) _, s1.out.setRow (fun a e => by have := b1.out a e; omega) _, s2.out.setRow (fun a e => by have := b2.out a e; omega) _, fun a e => by have := b0.out a e; omega, fun a e => by have := b1.out a e; omega, fun a e => by have := b2.out a e; omega⟩
set_option maxRecDepth 100000 in
set_option maxHeartbeats 16000000 in
theorem rOrient_swap (x0 y0 z0 u0 x1 y1 z1 u1 x2 y2 z2 u2 : Int) (n0 n1 n2 : Nat) (h0 : n0 ≤ 17592186043904) (h1 : n1 ≤ 17592186043904) (h2 : n2 ≤ 17592186043904) (f0 f1 f2 : Nat → Int) (A0 A1 A2 : Option Addr) (c0 c1 c2 : Nat) (w : World) (k0 : Sl w A0 n0 c0 f0) (k1 : Sl w A1 n1 c1 f1) (k2 : Sl w A2 n2 c2 f2) (hn : areaI x0 y0 x1 y1 x2 y2 < 0) :
    Calls Try.prog 23 #[.agg #[.int .i64 x0, .int .i64 y0, .int .i64 z0, .int .i64 u0, .slice A0 n0 c0, .int .i64 x1, .int .i64 y1, .int .i64 z1, .int .i64 u1, .slice A1 n1 c1, .int .i64 x2, .int .i64 y2, .int .i64 z2, .int .i64 u2, .slice A2 n2 c2]] w fun e w' => Below w.heap.size w w' ∧ ∃ B0 B1 B2 d0 d1 d2, e = .returned (.agg #[.int .i64 x0, .int .i64 y0, .int .i64 z0, .int .i64 u0, .slice B0 n0 d0, .int .i64 x2, .int .i64 y2, .int .i64 z2, .int .i64 u2, .slice B2 n2 d2, .int .i64 x1, .int .i64 y1, .int .i64 z1, .int .i64 u1, .slice B1 n1 d1]) ∧ Sl w' B0 n0 d0 f0 ∧ Sl w' B1 n1 d1 f1 ∧ Sl w' B2 n2 d2 f2 ∧ (∀ a, B0 = some a → w.heap.size ≤ a.block) ∧ (∀ a, B1 = some a → w.heap.size ≤ a.block) ∧ (∀ a, B2 = some a → w.heap.size ≤ a.block) := by
  obtain ⟨a, har⟩ : ∃ a, areaI x0 y0 x1 y1 x2 y2 = a := ⟨_, rfl⟩
  rw [har] at hn
  replace har := Lib.hid har
  have ha := Lib.hid ((Blk.new w 25 #[.int .i64 x0, .int .i64 y0, .int .i64 z0, .int .i64 u0, .slice A0 n0 c0, .int .i64 x1, .int .i64 y1, .int .i64 z1, .int .i64 u1, .slice A1 n1 c1, .int .i64 x2, .int .i64 y2, .int .i64 z2, .int .i64 u2, .slice A2 n2 c2]).alloc (.cells #[.int .i64 0, .int .i64 0, .int .i64 0, .int .i64 0, .slice none 0 0, .int .i64 0, .int .i64 0, .int .i64 0, .int .i64 0, .slice none 0 0, .int .i64 0, .int .i64 0, .int .i64 0, .int .i64 0, .slice none 0 0] 25))
  have hb := Lib.hid (Blk.new1 w 25 #[.int .i64 0, .int .i64 0, .int .i64 0, .int .i64 0, .slice none 0 0, .int .i64 0, .int .i64 0, .int .i64 0, .int .i64 0, .slice none 0 0, .int .i64 0, .int .i64 0, .int .i64 0, .int .i64 0, .slice none 0 0] (.cells #[.int .i64 x0, .int .i64 y0, .int .i64 z0, .int .i64 u0, .slice A0 n0 c0, .int .i64 x1, .int .i64 y1, .int .i64 z1, .int .i64 u1, .slice A1 n1 c1, .int .i64 x2, .int .i64 y2, .int .i64 z2, .int .i64 u2, .slice A2 n2 c2] 25))
  have hB : Hid (Below w.heap.size w ((w.alloc (.cells #[.int .i64 x0, .int .i64 y0, .int .i64 z0, .int .i64 u0, .slice A0 n0 c0, .int .i64 x1, .int .i64 y1, .int .i64 z1, .int .i64 u1, .slice A1 n1 c1, .int .i64 x2, .int .i64 y2, .int .i64 z2, .int .i64 u2, .slice A2 n2 c2] 25)).alloc (.cells #[.int .i64 0, .int .i64 0, .int .i64 0, .int .i64 0, .slice none 0 0, .int .i64 0, .int .i64 0, .int .i64 0, .int .i64 0, .slice none 0 0, .int .i64 0, .int .i64 0, .int .i64 0, .int .i64 0, .slice none 0 0] 25))) := Lib.hid (by go_grown)
  replace k0 := Lib.hid (k0.call hB.out)
  replace k1 := Lib.hid (k1.call hB.out)
  replace k2 := Lib.hid (k2.call hB.out)
  go_enter Try.func23, Try.ntmps23
  go_wp2_with (refine wpList_load_row rfl 25 _ rfl _ rfl _ _ _ _ ha.out Try.underlying25 rfl t3Info ?_)
  refine (rArea_at _ _ _ _ _ _ _ _ _ _ _ _ _ _ _ _ _ _ _ _ _ _ _ har.out).mono ?_
  rintro e W0 ⟨rfl, hb2⟩
  replace ha := Lib.hid (ha.out.call hb2)
  replace hb := Lib.hid (hb.out.call hb2)
  replace hB := Lib.hid (below_on hB.out hb2)
  replace k0 := Lib.hid (k0.out.call hb2)
  replace k1 := Lib.hid (k1.out.call hb2)
  replace k2 := Lib.hid (k2.out.call hb2)
  clear hb2
  go_wp2_with fail
  have la := ha.out.lt
  refine wp_region_noPanic ?_
  refine wp_region_held_drew (S := fun w' => ∃ n : Ext W0 (w.heap.size + 1), w' = n.val) (by kernel_rfl) ⟨⟨W0.drew, (Below.refl _ _).drew⟩, rfl⟩ (fun _ => ?_)
  refine held_quiets (fun _ _ _ _ _ h => h) (by kernel_rfl) ⟨⟨_, (((Below.refl _ _).drew).mono (Nat.le_of_lt hb.out.lt))⟩, rfl⟩ [0, 1, 3, 4, 6, 7] _ _ _ (by kernel_rfl) (by kernel_rfl) (of_decide_eq_true (by kernel_rfl)) ?_
  simp only [List.filterMap, List.getElem?_toArray, List.getElem?_cons_succ, List.getElem?_cons_zero]
  repeat (first | (go_big_quiet_want; refine quiet_load_sub 24 _ rfl _ 0 rfl _ _ #[.int .i64 x0, .int .i64 y0, .int .i64 z0, .int .i64 u0, .slice A0 n0 c0] _ ha.out (by first | assumption | omega) rfl Try.underlying24 rfl vInfo ?_; simp only [Act.put, List.setIfInBounds_toArray, List.set_cons_zero, List.set_cons_succ]; go_big_quiet_on) | (go_big_quiet_want; refine quiet_load_sub 24 _ rfl _ 5 rfl _ _ #[.int .i64 x1, .int .i64 y1, .int .i64 z1, .int .i64 u1, .slice A1 n1 c1] _ ha.out (by first | assumption | omega) rfl Try.underlying24 rfl vInfo ?_; simp only [Act.put, List.setIfInBounds_toArray, List.set_cons_zero, List.set_cons_succ]; go_big_quiet_on) | (go_big_quiet_want; refine quiet_load_sub 24 _ rfl _ 10 rfl _ _ #[.int .i64 x2, .int .i64 y2, .int .i64 z2, .int .i64 u2, .slice A2 n2 c2] _ ha.out (by first | assumption | omega) rfl Try.underlying24 rfl vInfo ?_; simp only [Act.put, List.setIfInBounds_toArray, List.set_cons_zero, List.set_cons_succ]; go_big_quiet_on) | go_big_quiet_step (fail))
  refine wpQuiet_nil ?_
  refine held_heavy (i := 2) (by kernel_rfl) rfl (by rfl) (of_decide_eq_true (by kernel_rfl)) (fun K hK => ?_)
  go_simp
  refine (copied_sl x0 y0 z0 u0 n0 h0 f0 A0 c0 _ (k0.out.call (Below.refl _ _).drew)).mono ?_
  rintro e V0 ⟨hv0, B0, d0, rfl, s0, nb0⟩
  have hbV0 : Below W0.heap.size W0 V0 := (((Below.refl _ _).drew).trans (hv0.mono (Nat.le_refl _)))
  replace s0 := Lib.hid s0
  have b0 : Hid (∀ a, B0 = some a → w.heap.size + 1 < a.block) := Lib.hid (fun a e => Nat.lt_of_lt_of_le hb.out.lt (nb0 a e))
  clear nb0
  refine hK _ _ ⟨⟨V0, (hbV0.mono (Nat.le_of_lt hb.out.lt))⟩, rfl⟩ ?_
  clear hK K
  try simp only [Act.put, List.setIfInBounds_toArray, List.set_cons_zero, List.set_cons_succ]
  refine held_heavy (i := 5) (by kernel_rfl) rfl (by rfl) (of_decide_eq_true (by kernel_rfl)) (fun K hK => ?_)
  go_simp
  refine (copied_sl x2 y2 z2 u2 n2 h2 f2 A2 c2 _ (k2.out.call hbV0)).mono ?_
  rintro e V2 ⟨hv2, B2, d2, rfl, s2, nb2⟩
  have hbV2 : Below W0.heap.size W0 V2 := (below_on hbV0 hv2)
  replace s2 := Lib.hid s2
  replace s0 := Lib.hid (s0.out.call hv2)
  have b2 : Hid (∀ a, B2 = some a → w.heap.size + 1 < a.block) := Lib.hid (fun a e => Nat.lt_of_lt_of_le hb.out.lt (Nat.le_trans hbV0.size (nb2 a e)))
  clear nb2
  refine hK _ _ ⟨⟨V2, (hbV2.mono (Nat.le_of_lt hb.out.lt))⟩, rfl⟩ ?_
  clear hK K
  try simp only [Act.put, List.setIfInBounds_toArray, List.set_cons_zero, List.set_cons_succ]
  refine held_heavy (i := 8) (by kernel_rfl) rfl (by rfl) (of_decide_eq_true (by kernel_rfl)) (fun K hK => ?_)
  go_simp
  refine (copied_sl x1 y1 z1 u1 n1 h1 f1 A1 c1 _ (k1.out.call hbV2)).mono ?_
  rintro e V1 ⟨hv1, B1, d1, rfl, s1, nb1⟩
  have hbV1 : Below W0.heap.size W0 V1 := (below_on hbV2 hv1)
  replace s1 := Lib.hid s1
  replace s0 := Lib.hid (s0.out.call hv1)
  replace s2 := Lib.hid (s2.out.call hv1)
  have b1 : Hid (∀ a, B1 = some a → w.heap.size + 1 < a.block) := Lib.hid (fun a e => Nat.lt_of_lt_of_le hb.out.lt (Nat.le_trans hbV2.size (nb1 a e)))
  clear nb1
  refine hK _ _ ⟨⟨V1, (hbV1.mono (Nat.le_of_lt hb.out.lt))⟩, rfl⟩ ?_
  clear hK K
  try simp only [Act.put, List.setIfInBounds_toArray, List.set_cons_zero, List.set_cons_succ]
  refine held_quiets (fun _ _ _ _ _ h => h) (by kernel_rfl) ⟨⟨_, (hbV1.mono (Nat.le_of_lt hb.out.lt))⟩, rfl⟩ [9] _ _ _ (by kernel_rfl) (by kernel_rfl) (of_decide_eq_true (by kernel_rfl)) ?_
  simp only [List.filterMap, List.getElem?_toArray, List.getElem?_cons_succ, List.getElem?_cons_zero]
  repeat (first | (go_big_quiet_want; refine quiet_load_sub 24 _ rfl _ 0 rfl _ _ #[.int .i64 x0, .int .i64 y0, .int .i64 z0, .int .i64 u0, .slice A0 n0 c0] _ ha.out (by first | assumption | omega) rfl Try.underlying24 rfl vInfo ?_; simp only [Act.put, List.setIfInBounds_toArray, List.set_cons_zero, List.set_cons_succ]; go_big_quiet_on) | (go_big_quiet_want; refine quiet_load_sub 24 _ rfl _ 5 rfl _ _ #[.int .i64 x1, .int .i64 y1, .int .i64 z1, .int .i64 u1, .slice A1 n1 c1] _ ha.out (by first | assumption | omega) rfl Try.underlying24 rfl vInfo ?_; simp only [Act.put, List.setIfInBounds_toArray, List.set_cons_zero, List.set_cons_succ]; go_big_quiet_on) | (go_big_quiet_want; refine quiet_load_sub 24 _ rfl _ 10 rfl _ _ #[.int .i64 x2, .int .i64 y2, .int .i64 z2, .int .i64 u2, .slice A2 n2 c2] _ ha.out (by first | assumption | omega) rfl Try.underlying24 rfl vInfo ?_; simp only [Act.put, List.setIfInBounds_toArray, List.set_cons_zero, List.set_cons_succ]; go_big_quiet_on) | go_big_quiet_step (fail))
  refine wpQuiet_nil ?_
  refine held_heavy (i := 10) (by kernel_rfl) rfl (by rfl) (of_decide_eq_true (by kernel_rfl)) (fun K hK => ?_)
  refine wp_store_row 25 _ _ rfl (w.heap.size + 1) #[.int .i64 x0, .int .i64 y0, .int .i64 z0, .int .i64 u0, .slice B0 n0 d0, .int .i64 x2, .int .i64 y2, .int .i64 z2, .int .i64 u2, .slice B2 n2 d2, .int .i64 x1, .int .i64 y1, .int .i64 z1, .int .i64 u1, .slice B1 n1 d1] rfl rfl 25 _ (hb.out.call hbV1) t3Info rfl (by kernel_rfl) ?_
  refine hK _ _ ⟨⟨_, (below_setRow (hbV1.mono (Nat.le_of_lt hb.out.lt)) (Nat.le_refl _) #[.int .i64 x0, .int .i64 y0, .int .i64 z0, .int .i64 u0, .slice B0 n0 d0, .int .i64 x2, .int .i64 y2, .int .i64 z2, .int .i64 u2, .slice B2 n2 d2, .int .i64 x1, .int .i64 y1, .int .i64 z1, .int .i64 u1, .slice B1 n1 d1])⟩, rfl⟩ ?_
  clear hK K
  simp only [Act.put]
  refine wpAnyH_done (by kernel_rfl) ?_ _
  refine NoPanic.normal ?_
  go_wp2
  refine bodyPost_ret (results_cell_row rfl _ _ (w.heap.size + 1) _ #[.int .i64 x0, .int .i64 y0, .int .i64 z0, .int .i64 u0, .slice B0 n0 d0, .int .i64 x2, .int .i64 y2, .int .i64 z2, .int .i64 u2, .slice B2 n2 d2, .int .i64 x1, .int .i64 y1, .int .i64 z1, .int .i64 u1, .slice B1 n1 d1] _ _ rfl ((hb.out.call hbV1).setRow _) Try.underlying25 rfl t3Info) rfl ?_
  exact ⟨below_setRow (below_on hB.out hbV1) (by omega) _, B0, B1, B2, d0, d1, d2, rfl, s0.out.setRow (fun a e => by have := b0.out a e; omega) _, s1.out.setRow (fun a e => by have := b1.out a e; omega) _, s2.out.setRow (fun a e => by have := b2.out a e; omega) _, fun a e => by have := b0.out a e; omega, fun a e => by have := b1.out a e; omega, fun a e => by have := b2.out a e; omega⟩
end Go.Proofs.Ytboffbajmlkhiaa
