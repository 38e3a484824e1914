/- VaryingVertices returns true. -/
import Derived.Test.YthbagegkcpblgaaVar9
namespace Go.Proofs.Ythbagegkcpblgaa
open Go.RowKit
attribute [local go_sem] Ext.cell
theorem svInfo : (Try.prog.info? 24).map (·.size) = some 5 := by kernel_rfl
theorem i32Info : (Try.prog.info? 44).map (·.size) = some 6 := by kernel_rfl
theorem small_of {x : Int} (h : smallB x = true) : small x := by
  unfold smallB at h
  unfold small
  simpa using h
set_option maxRecDepth 100000 in
set_option maxHeartbeats 32000000 in
theorem vert_yes (x0 y0 z0 u0 x1 y1 z1 u1 x2 y2 z2 u2 : Int) (A0 A1 A2 : Option Addr) (n0 c0 n1 c1 n2 c2 : Nat) (pr : Int) (fr : Bool) (w : World) (hn0 : n0 ≤ 17592186043904) (hn1 : n1 ≤ 17592186043904) (hn2 : n2 ≤ 17592186043904) (f0 f1 f2 : Nat → Int) (k0 : Sl w A0 n0 c0 f0) (k1 : Sl w A1 n1 c1 f1) (k2 : Sl w A2 n2 c2 f2) (hv : validB x0 y0 x1 y1 x2 y2 = true) :
    Calls Try.prog 7 #[.agg #[.int .i64 x0, .int .i64 y0, .int .i64 z0, .int .i64 u0, .slice A0 n0 c0, .int .i64 x1, .int .i64 y1, .int .i64 z1, .int .i64 u1, .slice A1 n1 c1, .int .i64 x2, .int .i64 y2, .int .i64 z2, .int .i64 u2, .slice A2 n2 c2, .int .i64 pr, .bool fr]] w fun e w' => e = .returned (.bool true) ∧ Below w.heap.size w w' := by
  obtain ⟨d0, hd0⟩ : ∃ d, clampI z0 0 65536 = d := ⟨_, rfl⟩
  obtain ⟨q0, hq0⟩ : ∃ q, (if z0 < 65536 then z0 else 65536) = q := ⟨_, rfl⟩
  have hm0 : (if 0 < q0 then q0 else 0) = d0 := by unfold clampI at hd0; omega
  have hL0 := Lib.hid (fun w => vert_lin0 x0 y0 z0 u0 x1 y1 z1 u1 x2 y2 z2 u2 A0 A1 A2 n0 c0 n1 c1 n2 c2 pr fr hv w)
  have hE0 := Lib.hid (fun w => vert_per0 x0 y0 z0 u0 x1 y1 z1 u1 x2 y2 z2 u2 A0 A1 A2 n0 c0 n1 c1 n2 c2 pr fr hv w)
  have hD0 := Lib.hid (fun s0 s1 s2 w => vert_dep0 x0 y0 z0 u0 x1 y1 z1 u1 x2 y2 z2 u2 A0 A1 A2 n0 c0 n1 c1 n2 c2 pr fr hv s0 s1 s2 d0 hd0 w)
  have hV0 := Lib.hid (fun w k0 k1 k2 => values_yes x0 y0 z0 u0 x1 y1 z1 u1 x2 y2 z2 u2 A0 A1 A2 n0 c0 n1 c1 n2 c2 pr fr x0 y0 w hn0 hn1 hn2 f0 f1 f2 k0 k1 k2 65536 0 (fun w => vert_per0 x0 y0 z0 u0 x1 y1 z1 u1 x2 y2 z2 u2 A0 A1 A2 n0 c0 n1 c1 n2 c2 pr fr hv w) hv)
  have hT0 := Lib.hid (fun j v hj e w h => at_0 x0 y0 z0 u0 x1 y1 z1 u1 x2 y2 z2 u2 A0 A1 A2 n0 c0 n1 c1 n2 c2 pr fr w f0 j v hn0 hj e h)
  replace hq0 := Lib.hid hq0
  replace hm0 := Lib.hid hm0
  clear hd0
  obtain ⟨d1, hd1⟩ : ∃ d, clampI z1 0 65536 = d := ⟨_, rfl⟩
  obtain ⟨q1, hq1⟩ : ∃ q, (if z1 < 65536 then z1 else 65536) = q := ⟨_, rfl⟩
  have hm1 : (if 0 < q1 then q1 else 0) = d1 := by unfold clampI at hd1; omega
  have hL1 := Lib.hid (fun w => vert_lin1 x0 y0 z0 u0 x1 y1 z1 u1 x2 y2 z2 u2 A0 A1 A2 n0 c0 n1 c1 n2 c2 pr fr hv w)
  have hE1 := Lib.hid (fun w => vert_per1 x0 y0 z0 u0 x1 y1 z1 u1 x2 y2 z2 u2 A0 A1 A2 n0 c0 n1 c1 n2 c2 pr fr hv w)
  have hD1 := Lib.hid (fun s0 s1 s2 w => vert_dep1 x0 y0 z0 u0 x1 y1 z1 u1 x2 y2 z2 u2 A0 A1 A2 n0 c0 n1 c1 n2 c2 pr fr hv s0 s1 s2 d1 hd1 w)
  have hV1 := Lib.hid (fun w k0 k1 k2 => values_yes x0 y0 z0 u0 x1 y1 z1 u1 x2 y2 z2 u2 A0 A1 A2 n0 c0 n1 c1 n2 c2 pr fr x1 y1 w hn0 hn1 hn2 f0 f1 f2 k0 k1 k2 0 65536 (fun w => vert_per1 x0 y0 z0 u0 x1 y1 z1 u1 x2 y2 z2 u2 A0 A1 A2 n0 c0 n1 c1 n2 c2 pr fr hv w) hv)
  have hT1 := Lib.hid (fun j v hj e w h => at_1 x0 y0 z0 u0 x1 y1 z1 u1 x2 y2 z2 u2 A0 A1 A2 n0 c0 n1 c1 n2 c2 pr fr w f1 j v hn1 hj e h)
  replace hq1 := Lib.hid hq1
  replace hm1 := Lib.hid hm1
  clear hd1
  obtain ⟨d2, hd2⟩ : ∃ d, clampI z2 0 65536 = d := ⟨_, rfl⟩
  obtain ⟨q2, hq2⟩ : ∃ q, (if z2 < 65536 then z2 else 65536) = q := ⟨_, rfl⟩
  have hm2 : (if 0 < q2 then q2 else 0) = d2 := by unfold clampI at hd2; omega
  have hL2 := Lib.hid (fun w => vert_lin2 x0 y0 z0 u0 x1 y1 z1 u1 x2 y2 z2 u2 A0 A1 A2 n0 c0 n1 c1 n2 c2 pr fr hv w)
  have hE2 := Lib.hid (fun w => vert_per2 x0 y0 z0 u0 x1 y1 z1 u1 x2 y2 z2 u2 A0 A1 A2 n0 c0 n1 c1 n2 c2 pr fr hv w)
  have hD2 := Lib.hid (fun s0 s1 s2 w => vert_dep2 x0 y0 z0 u0 x1 y1 z1 u1 x2 y2 z2 u2 A0 A1 A2 n0 c0 n1 c1 n2 c2 pr fr hv s0 s1 s2 d2 hd2 w)
  have hV2 := Lib.hid (fun w k0 k1 k2 => values_yes x0 y0 z0 u0 x1 y1 z1 u1 x2 y2 z2 u2 A0 A1 A2 n0 c0 n1 c1 n2 c2 pr fr x2 y2 w hn0 hn1 hn2 f0 f1 f2 k0 k1 k2 0 0 (fun w => vert_per2 x0 y0 z0 u0 x1 y1 z1 u1 x2 y2 z2 u2 A0 A1 A2 n0 c0 n1 c1 n2 c2 pr fr hv w) hv)
  have hT2 := Lib.hid (fun j v hj e w h => at_2 x0 y0 z0 u0 x1 y1 z1 u1 x2 y2 z2 u2 A0 A1 A2 n0 c0 n1 c1 n2 c2 pr fr w f2 j v hn2 hj e h)
  replace hq2 := Lib.hid hq2
  replace hm2 := Lib.hid hm2
  clear hd2
  have nn0 : (0 : Int) ≤ n0 := by omega
  have nn1 : (n0 : Int) ≤ 17592186043904 := by omega
  have hnN : n0 ≤ 17592186043904 := hn0
  replace hn0 := Lib.hid hn0
  replace hn1 := Lib.hid hn1
  replace hn2 := Lib.hid hn2
  replace hv := Lib.hid (fun w => valid_at x0 y0 z0 u0 x1 y1 z1 u1 x2 y2 z2 u2 A0 A1 A2 n0 c0 n1 c1 n2 c2 pr fr w true hv)
  have hk := Lib.hid (Blk.new w 27 #[.int .i64 x0, .int .i64 y0, .int .i64 z0, .int .i64 u0, .slice A0 n0 c0, .int .i64 x1, .int .i64 y1, .int .i64 z1, .int .i64 u1, .slice A1 n1 c1, .int .i64 x2, .int .i64 y2, .int .i64 z2, .int .i64 u2, .slice A2 n2 c2, .int .i64 pr, .bool fr])
  have hB : Hid (Below w.heap.size w (w.alloc (.cells #[.int .i64 x0, .int .i64 y0, .int .i64 z0, .int .i64 u0, .slice A0 n0 c0, .int .i64 x1, .int .i64 y1, .int .i64 z1, .int .i64 u1, .slice A1 n1 c1, .int .i64 x2, .int .i64 y2, .int .i64 z2, .int .i64 u2, .slice A2 n2 c2, .int .i64 pr, .bool fr] 27))) := Lib.hid (by go_grown)
  replace k0 := Lib.hid (k0.alloc (.cells #[.int .i64 x0, .int .i64 y0, .int .i64 z0, .int .i64 u0, .slice A0 n0 c0, .int .i64 x1, .int .i64 y1, .int .i64 z1, .int .i64 u1, .slice A1 n1 c1, .int .i64 x2, .int .i64 y2, .int .i64 z2, .int .i64 u2, .slice A2 n2 c2, .int .i64 pr, .bool fr] 27))
  replace k1 := Lib.hid (k1.alloc (.cells #[.int .i64 x0, .int .i64 y0, .int .i64 z0, .int .i64 u0, .slice A0 n0 c0, .int .i64 x1, .int .i64 y1, .int .i64 z1, .int .i64 u1, .slice A1 n1 c1, .int .i64 x2, .int .i64 y2, .int .i64 z2, .int .i64 u2, .slice A2 n2 c2, .int .i64 pr, .bool fr] 27))
  replace k2 := Lib.hid (k2.alloc (.cells #[.int .i64 x0, .int .i64 y0, .int .i64 z0, .int .i64 u0, .slice A0 n0 c0, .int .i64 x1, .int .i64 y1, .int .i64 z1, .int .i64 u1, .slice A1 n1 c1, .int .i64 x2, .int .i64 y2, .int .i64 z2, .int .i64 u2, .slice A2 n2 c2, .int .i64 pr, .bool fr] 27))
  obtain ⟨uu0, rfl⟩ : ∃ q, q = u0 := ⟨_, rfl⟩
  obtain ⟨uu1, rfl⟩ : ∃ q, q = u1 := ⟨_, rfl⟩
  obtain ⟨uu2, rfl⟩ : ∃ q, q = u2 := ⟨_, rfl⟩
  go_enter Try.func7, Try.ntmps7
  go_wp2_with (refine wpList_load_row rfl 27 _ rfl _ rfl _ _ _ _ hk.out Try.underlying27 rfl triInfo ?_)
  refine (hv.out _).mono ?_
  rintro e V0 ⟨rfl, hb⟩
  replace hk := Lib.hid (hk.out.call hb)
  replace k0 := Lib.hid (k0.out.call hb)
  replace k1 := Lib.hid (k1.out.call hb)
  replace k2 := Lib.hid (k2.out.call hb)
  replace hB := Lib.hid (below_on hB.out hb)
  clear hb
  clear hv
  obtain ⟨pka, hpp⟩ : ∃ g, V0.heap.size = g := ⟨_, rfl⟩
  go_upto_region 3 with fail
  refine wp_region_lit ?_
  refine wpList_buildTo rfl 28 _ rfl #[.int .i64 65536, .int .i64 0] (by kernel_rfl) ?_
  simp only [Act.put, List.setIfInBounds_toArray, List.set_cons_zero, List.set_cons_succ]
  refine wpList_buildTo rfl 28 _ rfl #[.int .i64 0, .int .i64 65536] (by kernel_rfl) ?_
  simp only [Act.put, List.setIfInBounds_toArray, List.set_cons_zero, List.set_cons_succ]
  refine wpList_buildTo rfl 28 _ rfl #[.int .i64 0, .int .i64 0] (by kernel_rfl) ?_
  simp only [Act.put, List.setIfInBounds_toArray, List.set_cons_zero, List.set_cons_succ]
  refine wpList_buildTo rfl 44 _ rfl #[.int .i64 65536, .int .i64 0, .int .i64 0, .int .i64 65536, .int .i64 0, .int .i64 0] (by kernel_rfl) ?_
  simp only [Act.put, List.setIfInBounds_toArray, List.set_cons_zero, List.set_cons_succ]
  refine wpList_alloc rfl (.cells #[.int .i64 0, .int .i64 0, .int .i64 0, .int .i64 0, .int .i64 0, .int .i64 0] 44) (fun ev xw => by simp [go_sem, ptrTo]) pka hpp ?_
  simp only [Act.put, List.setIfInBounds_toArray, List.set_cons_zero, List.set_cons_succ]
  refine wpList_store_row rfl 44 _ _ rfl pka #[.int .i64 65536, .int .i64 0, .int .i64 0, .int .i64 65536, .int .i64 0, .int .i64 0] rfl rfl 44 _ (Blk.new_at hpp) i32Info rfl (by kernel_rfl) ?_
  have hbn : Below V0.heap.size V0 ((V0.alloc (.cells #[.int .i64 0, .int .i64 0, .int .i64 0, .int .i64 0, .int .i64 0, .int .i64 0] 44)).setRow pka #[.int .i64 65536, .int .i64 0, .int .i64 0, .int .i64 65536, .int .i64 0, .int .i64 0]) := below_setRow ((Below.refl _ _).alloc (Nat.le_refl _) (.cells #[.int .i64 0, .int .i64 0, .int .i64 0, .int .i64 0, .int .i64 0, .int .i64 0] 44)) (Nat.le_of_eq hpp) #[.int .i64 65536, .int .i64 0, .int .i64 0, .int .i64 65536, .int .i64 0, .int .i64 0]
  have ka := Lib.hid (Blk.setRow (Blk.new_at (t := 44) (cs := #[.int .i64 0, .int .i64 0, .int .i64 0, .int .i64 0, .int .i64 0, .int .i64 0]) hpp) #[.int .i64 65536, .int .i64 0, .int .i64 0, .int .i64 65536, .int .i64 0, .int .i64 0])
  replace hk := Lib.hid (hk.out.call hbn)
  replace k0 := Lib.hid (k0.out.call hbn)
  replace k1 := Lib.hid (k1.out.call hbn)
  replace k2 := Lib.hid (k2.out.call hbn)
  replace hB := Lib.hid (below_on hB.out hbn)
  generalize (V0.alloc (.cells #[.int .i64 0, .int .i64 0, .int .i64 0, .int .i64 0, .int .i64 0, .int .i64 0] 44)).setRow pka #[.int .i64 65536, .int .i64 0, .int .i64 0, .int .i64 65536, .int .i64 0, .int .i64 0] = V1 at *
  refine wpList_nil ?_
  dsimp only [Act.put]
  clear hpp hbn
  go_wp2_with fail
  refine wp_loop_rounds 4 ?_
  rw [rounds_succ]
  go_wp2_with (first | refine wpList_load_sub rfl 24 _ rfl _ 0 rfl _ _ #[.int .i64 x0, .int .i64 y0, .int .i64 z0, .int .i64 uu0, .slice A0 n0 c0] _ _ hk.out rfl Try.underlying24 rfl svInfo ?_ | refine wpList_store_row rfl 24 _ _ rfl V1.heap.size #[.int .i64 x0, .int .i64 y0, .int .i64 z0, .int .i64 uu0, .slice A0 n0 c0] rfl rfl 24 _ (Blk.new V1 24 #[.int .i64 0, .int .i64 0, .int .i64 0, .int .i64 0, .slice none 0 0]) svInfo rfl (by kernel_rfl) ?_)
  obtain ⟨pkv, hpp⟩ : ∃ g, V1.heap.size = g := ⟨_, rfl⟩
  simp only [hpp]
  have hbn : Below V1.heap.size V1 ((V1.alloc (.cells #[.int .i64 0, .int .i64 0, .int .i64 0, .int .i64 0, .slice none 0 0] 24)).setRow pkv #[.int .i64 x0, .int .i64 y0, .int .i64 z0, .int .i64 uu0, .slice A0 n0 c0]) := below_setRow ((Below.refl _ _).alloc (Nat.le_refl _) (.cells #[.int .i64 0, .int .i64 0, .int .i64 0, .int .i64 0, .slice none 0 0] 24)) (Nat.le_of_eq hpp) #[.int .i64 x0, .int .i64 y0, .int .i64 z0, .int .i64 uu0, .slice A0 n0 c0]
  have kv := Lib.hid (Blk.setRow (Blk.new_at (t := 24) (cs := #[.int .i64 0, .int .i64 0, .int .i64 0, .int .i64 0, .slice none 0 0]) hpp) #[.int .i64 x0, .int .i64 y0, .int .i64 z0, .int .i64 uu0, .slice A0 n0 c0])
  replace hk := Lib.hid (hk.out.call hbn)
  replace k0 := Lib.hid (k0.out.call hbn)
  replace k1 := Lib.hid (k1.out.call hbn)
  replace k2 := Lib.hid (k2.out.call hbn)
  replace ka := Lib.hid (ka.out.call hbn)
  replace hB := Lib.hid (below_on hB.out hbn)
  generalize (V1.alloc (.cells #[.int .i64 0, .int .i64 0, .int .i64 0, .int .i64 0, .slice none 0 0] 24)).setRow pkv #[.int .i64 x0, .int .i64 y0, .int .i64 z0, .int .i64 uu0, .slice A0 n0 c0] = P0 at *
  dsimp only [Act.put]
  clear hpp hbn
  have lk := hk.out.lt
  have la := ka.out.lt
  have cv := kv.out.cell
  have lv := kv.out.lt
  refine wp_region_ext P0.heap.size (by kernel_rfl) (by kernel_rfl) ?_
  repeat (first | (go_big_quiet_want; refine quiet_load_row 27 _ rfl _ rfl _ _ _ hk.out (by first | assumption | omega) Try.underlying27 rfl triInfo ?_; simp only [Act.put, List.setIfInBounds_toArray, List.set_cons_zero, List.set_cons_succ]; go_big_quiet_on) | (go_big_quiet_want; refine quiet_load_sub 28 _ rfl _ 0 rfl _ _ #[.int .i64 65536, .int .i64 0] _ ka.out (by first | assumption | omega) rfl Try.underlying28 rfl i2Info ?_; simp only [Act.put, List.setIfInBounds_toArray, List.set_cons_zero, List.set_cons_succ]; go_big_quiet_on) | go_big_quiet_step (first | (go_at_call 17; exact ext_call (Nat.le_refl _) (hL0.out _)) | (go_at_call 19; exact ext_call (Nat.le_refl _) (hE0.out _))))
  refine wpQuiet_nil ?_
  intro Q0 hwx
  obtain ⟨⟨Q0, hb⟩, rfl⟩ := hwx
  clear lk la cv lv
  replace hk := Lib.hid (hk.out.call hb)
  replace k0 := Lib.hid (k0.out.call hb)
  replace k1 := Lib.hid (k1.out.call hb)
  replace k2 := Lib.hid (k2.out.call hb)
  replace ka := Lib.hid (ka.out.call hb)
  replace kv := Lib.hid (kv.out.call hb)
  replace hB := Lib.hid (below_on hB.out hb)
  clear hb
  go_upto_region 10 with fail
  go_cut [86] (fun v W' => v = .bool false ∧ Below Q0.heap.size Q0 W')
  case first =>
    have lk := hk.out.lt
    have ck := hk.out.cell
    have cv := kv.out.cell
    have lv := kv.out.lt
    cases s0 : smallB z0 with
    | false =>
      refine wp_region_ext Q0.heap.size (by kernel_rfl) (by kernel_rfl) ?_
      repeat (go_big_quiet_step (first | (go_at_call_of 26 (Value.int IntKind.i64 z0); exact ext_same (small_at z0 false s0 _))))
      refine wpQuiet_nil ?_
      intro Q9 hwx
      obtain ⟨⟨Q9, hb⟩, rfl⟩ := hwx
      go_wp2_with fail
      go_meet
      case rel => exact ⟨rfl, hb⟩
    | true =>
      cases s1 : smallB z1 with
      | false =>
        refine wp_region_ext Q0.heap.size (by kernel_rfl) (by kernel_rfl) ?_
        repeat (go_big_quiet_step (first | (go_at_call_of 26 (Value.int IntKind.i64 z0); exact ext_same (small_at z0 true s0 _)) | (go_at_call_of 26 (Value.int IntKind.i64 z1); exact ext_same (small_at z1 false s1 _))))
        refine wpQuiet_nil ?_
        intro Q9 hwx
        obtain ⟨⟨Q9, hb⟩, rfl⟩ := hwx
        go_wp2_with fail
        go_meet
        case rel => exact ⟨rfl, hb⟩
      | true =>
        cases s2 : smallB z2 with
        | false =>
          refine wp_region_ext Q0.heap.size (by kernel_rfl) (by kernel_rfl) ?_
          repeat (go_big_quiet_step (first | (go_at_call_of 26 (Value.int IntKind.i64 z0); exact ext_same (small_at z0 true s0 _)) | (go_at_call_of 26 (Value.int IntKind.i64 z1); exact ext_same (small_at z1 true s1 _)) | (go_at_call_of 26 (Value.int IntKind.i64 z2); exact ext_same (small_at z2 false s2 _))))
          refine wpQuiet_nil ?_
          intro Q9 hwx
          obtain ⟨⟨Q9, hb⟩, rfl⟩ := hwx
          go_wp2_with fail
          go_meet
          case rel => exact ⟨rfl, hb⟩
        | true =>
          have m1 := hq0.out
          have m2 := hm0.out
          have hDD := Lib.hid (hD0.out (small_of s0) (small_of s1) (small_of s2))
          refine wp_region_ext Q0.heap.size (by kernel_rfl) (by kernel_rfl) ?_
          repeat (first | (go_big_quiet_want; refine quiet_load_row 27 _ rfl _ rfl _ _ _ hk.out (by first | assumption | omega) Try.underlying27 rfl triInfo ?_; simp only [Act.put, List.setIfInBounds_toArray, List.set_cons_zero, List.set_cons_succ]; go_big_quiet_on) | go_big_quiet_step (first | (go_at_call_of 26 (Value.int IntKind.i64 z0); exact ext_same (small_at z0 true s0 _)) | (go_at_call_of 26 (Value.int IntKind.i64 z1); exact ext_same (small_at z1 true s1 _)) | (go_at_call_of 26 (Value.int IntKind.i64 z2); exact ext_same (small_at z2 true s2 _)) | (go_at_call 21; exact ext_call (Nat.le_refl _) (hDD.out _))))
          refine wpQuiet_nil ?_
          intro Q9 hwx
          obtain ⟨⟨Q9, hb⟩, rfl⟩ := hwx
          go_wp2_with fail
          go_meet
          case rel => exact ⟨rfl, hb⟩
  obtain ⟨rfl, hb⟩ := hcut
  replace hk := Lib.hid (hk.out.call hb)
  replace k0 := Lib.hid (k0.out.call hb)
  replace k1 := Lib.hid (k1.out.call hb)
  replace k2 := Lib.hid (k2.out.call hb)
  replace ka := Lib.hid (ka.out.call hb)
  replace kv := Lib.hid (kv.out.call hb)
  replace hB := Lib.hid (below_on hB.out hb)
  clear hb
  have cv := kv.out.cell
  have lv := kv.out.lt
  go_wp2_with (refine wpList_load_row rfl 27 _ rfl _ rfl _ _ _ _ hk.out Try.underlying27 rfl triInfo ?_)
  clear cv lv
  refine (hV0.out _ k0.out k1.out k2.out).mono ?_
  rintro e S0 ⟨hb, ga, gc, rfl, hs, -⟩
  replace hk := Lib.hid (hk.out.call hb)
  replace k0 := Lib.hid (k0.out.call hb)
  replace k1 := Lib.hid (k1.out.call hb)
  replace k2 := Lib.hid (k2.out.call hb)
  replace ka := Lib.hid (ka.out.call hb)
  replace hB := Lib.hid (below_on hB.out hb)
  replace hs := Lib.hid hs
  clear hb kv
  have ck := hk.out.cell
  have lk := hk.out.lt
  go_wp2_with fail
  clear ck lk
  go_loopw [7, 8, 9, 10] (fun i _ _ _ wr => ∃ j : Nat, j ≤ n0 ∧ i = .int .i64 j ∧ Below S0.heap.size S0 wr)
    (fun i _ _ _ _ => n0 - (intOf i).toNat)
  case atStart => exact ⟨0, by omega, rfl, Below.refl _ _⟩
  case round =>
    obtain ⟨j, hjn, rfl, hb⟩ := hrel
    obtain ⟨T0, rfl⟩ : ∃ q, q = wr := ⟨_, rfl⟩
    replace hb := Lib.hid hb
    by_cases hlt : j < n0
    · have hlt' : (j : Int) < n0 := by omega
      have hj : j ≤ 17592186043904 := by omega
      obtain ⟨a, ea⟩ : ∃ a, compI n0 f0 j = a := ⟨_, rfl⟩
      obtain ⟨b, eb⟩ : ∃ a, compI n1 f1 j = a := ⟨_, rfl⟩
      obtain ⟨c, ec⟩ : ∃ a, compI n2 f2 j = a := ⟨_, rfl⟩
      have fa : f0 j = a := by rw [← ea]; unfold compI; rw [if_pos hlt]
      have hG : Hid (smallB a = true → smallB b = true → smallB c = true → valsAt 65536 0 n1 n2 f0 f1 f2 j = a) := Lib.hid (fun _s _ sc => by
        unfold valsAt
        rw [fa, eb, ec]
        exact mix_first (small_of _s) (small_of sc))
      have k0r := k0.out.call hb.out
      have k1r := k1.out.call hb.out
      have k2r := k2.out.call hb.out
      have hkr := hk.out.call hb.out
      have hA0 := Lib.hid (fun w h => hT0.out j a hj ea w h)
      have hA1 := Lib.hid (fun w h => hT1.out j b hj eb w h)
      have hA2 := Lib.hid (fun w h => hT2.out j c hj ec w h)
      clear ea eb ec fa
      have lk := hkr.lt
      go_wp2_with fail
      refine wp_region_ext T0.heap.size (by kernel_rfl) (by kernel_rfl) ?_
      repeat (first | (go_big_quiet_want; refine quiet_load_row 27 _ rfl _ rfl _ _ _ hkr (by first | assumption | omega) Try.underlying27 rfl triInfo ?_; simp only [Act.put, List.setIfInBounds_toArray, List.set_cons_zero, List.set_cons_succ]; go_big_quiet_on) | go_big_quiet_step (first | (go_at_call_of 27 (Value.int IntKind.i64 0); exact ext_call (Nat.le_refl _) (hA0.out _ (k0r.call (Ext.below _)))) | (go_at_call_of 27 (Value.int IntKind.i64 1); exact ext_call (Nat.le_refl _) (hA1.out _ (k1r.call (Ext.below _)))) | (go_at_call_of 27 (Value.int IntKind.i64 2); exact ext_call (Nat.le_refl _) (hA2.out _ (k2r.call (Ext.below _))))))
      refine wpQuiet_nil ?_
      intro Y0 hwx
      obtain ⟨⟨Y0, hbx⟩, rfl⟩ := hwx
      replace hb := Lib.hid (below_on hb.out hbx)
      clear hbx k0r k1r k2r hkr lk
      go_wp2_with fail
      cases sa : smallB a with
      | false =>
        refine wp_region_ext Y0.heap.size (by kernel_rfl) (by kernel_rfl) ?_
        repeat (go_big_quiet_step (first | (go_at_call_of 26 (Value.int IntKind.i64 a); exact ext_same (small_at a false sa _))))
        refine wpQuiet_nil ?_
        intro Y9 hwx
        obtain ⟨⟨Y9, hbx⟩, rfl⟩ := hwx
        replace hb := Lib.hid (below_on hb.out hbx)
        clear hbx
        go_wp2_with fail
        go_roundw
        case rel => exact ⟨j + 1, by omega, by go_num, hb.out⟩
        case measure => simp [intOf]; omega
      | true =>
        cases sb : smallB b with
        | false =>
          refine wp_region_ext Y0.heap.size (by kernel_rfl) (by kernel_rfl) ?_
          repeat (go_big_quiet_step (first | (go_at_call_of 26 (Value.int IntKind.i64 a); exact ext_same (small_at a true sa _)) | (go_at_call_of 26 (Value.int IntKind.i64 b); exact ext_same (small_at b false sb _))))
          refine wpQuiet_nil ?_
          intro Y9 hwx
          obtain ⟨⟨Y9, hbx⟩, rfl⟩ := hwx
          replace hb := Lib.hid (below_on hb.out hbx)
          clear hbx
          go_wp2_with fail
          go_roundw
          case rel => exact ⟨j + 1, by omega, by go_num, hb.out⟩
          case measure => simp [intOf]; omega
        | true =>
          cases sc : smallB c with
          | false =>
            refine wp_region_ext Y0.heap.size (by kernel_rfl) (by kernel_rfl) ?_
            repeat (go_big_quiet_step (first | (go_at_call_of 26 (Value.int IntKind.i64 a); exact ext_same (small_at a true sa _)) | (go_at_call_of 26 (Value.int IntKind.i64 b); exact ext_same (small_at b true sb _)) | (go_at_call_of 26 (Value.int IntKind.i64 c); exact ext_same (small_at c false sc _))))
            refine wpQuiet_nil ?_
            intro Y9 hwx
            obtain ⟨⟨Y9, hbx⟩, rfl⟩ := hwx
            replace hb := Lib.hid (below_on hb.out hbx)
            clear hbx
            go_wp2_with fail
            go_roundw
            case rel => exact ⟨j + 1, by omega, by go_num, hb.out⟩
            case measure => simp [intOf]; omega
          | true =>
            have hkr := hk.out.call hb.out
            have k0r := k0.out.call hb.out
            have lk := hkr.lt
            obtain ⟨g, rfl, -, -⟩ := hs.out.get hlt
            have e1 : ∀ m : Ext Y0 Y0.heap.size, m.val.cell? (g.add j) = some (.int .i64 a) := fun m => by
              obtain ⟨g', e, -, h⟩ := ((hs.out.call hb.out).call m.below).get hlt
              obtain rfl := Option.some.inj e
              rw [← hG.out sa sb sc]
              exact h
            refine wp_region_ext Y0.heap.size (by kernel_rfl) (by kernel_rfl) ?_
            repeat (first | (go_big_quiet_want; refine quiet_load_row 27 _ rfl _ rfl _ _ _ hkr (by first | assumption | omega) Try.underlying27 rfl triInfo ?_; simp only [Act.put, List.setIfInBounds_toArray, List.set_cons_zero, List.set_cons_succ]; go_big_quiet_on) | go_big_quiet_step (first | (go_at_call_of 26 (Value.int IntKind.i64 a); exact ext_same (small_at a true sa _)) | (go_at_call_of 26 (Value.int IntKind.i64 b); exact ext_same (small_at b true sb _)) | (go_at_call_of 26 (Value.int IntKind.i64 c); exact ext_same (small_at c true sc _)) | (go_at_call 27; exact ext_call (Nat.le_refl _) (hA0.out _ (k0r.call (Ext.below _))))))
            refine wpQuiet_nil ?_
            intro Y9 hwx
            obtain ⟨⟨Y9, hbx⟩, rfl⟩ := hwx
            replace hb := Lib.hid (below_on hb.out hbx)
            clear hbx
            go_wp2_with fail
            go_roundw
            case rel => exact ⟨j + 1, by omega, by go_num, hb.out⟩
            case measure => simp [intOf]; omega
    · have hlt' : (n0 : Int) ≤ j := by omega
      replace hk := Lib.hid (hk.out.call hb.out)
      replace k0 := Lib.hid (k0.out.call hb.out)
      replace k1 := Lib.hid (k1.out.call hb.out)
      replace k2 := Lib.hid (k2.out.call hb.out)
      replace ka := Lib.hid (ka.out.call hb.out)
      replace hB := Lib.hid (below_on hB.out hb.out)
      clear hb hs
      go_wp2_with fail
      rw [rounds_succ]
      clear hlt hlt' hjn
      go_wp2_with (first | refine wpList_load_sub rfl 24 _ rfl _ 5 rfl _ _ #[.int .i64 x1, .int .i64 y1, .int .i64 z1, .int .i64 uu1, .slice A1 n1 c1] _ _ hk.out rfl Try.underlying24 rfl svInfo ?_ | refine wpList_store_row rfl 24 _ _ rfl T0.heap.size #[.int .i64 x1, .int .i64 y1, .int .i64 z1, .int .i64 uu1, .slice A1 n1 c1] rfl rfl 24 _ (Blk.new T0 24 #[.int .i64 0, .int .i64 0, .int .i64 0, .int .i64 0, .slice none 0 0]) svInfo rfl (by kernel_rfl) ?_)
      obtain ⟨pkv, hpp⟩ : ∃ g, T0.heap.size = g := ⟨_, rfl⟩
      simp only [hpp]
      have hbn : Below T0.heap.size T0 ((T0.alloc (.cells #[.int .i64 0, .int .i64 0, .int .i64 0, .int .i64 0, .slice none 0 0] 24)).setRow pkv #[.int .i64 x1, .int .i64 y1, .int .i64 z1, .int .i64 uu1, .slice A1 n1 c1]) := below_setRow ((Below.refl _ _).alloc (Nat.le_refl _) (.cells #[.int .i64 0, .int .i64 0, .int .i64 0, .int .i64 0, .slice none 0 0] 24)) (Nat.le_of_eq hpp) #[.int .i64 x1, .int .i64 y1, .int .i64 z1, .int .i64 uu1, .slice A1 n1 c1]
      have kv := Lib.hid (Blk.setRow (Blk.new_at (t := 24) (cs := #[.int .i64 0, .int .i64 0, .int .i64 0, .int .i64 0, .slice none 0 0]) hpp) #[.int .i64 x1, .int .i64 y1, .int .i64 z1, .int .i64 uu1, .slice A1 n1 c1])
      replace hk := Lib.hid (hk.out.call hbn)
      replace k0 := Lib.hid (k0.out.call hbn)
      replace k1 := Lib.hid (k1.out.call hbn)
      replace k2 := Lib.hid (k2.out.call hbn)
      replace ka := Lib.hid (ka.out.call hbn)
      replace hB := Lib.hid (below_on hB.out hbn)
      generalize (T0.alloc (.cells #[.int .i64 0, .int .i64 0, .int .i64 0, .int .i64 0, .slice none 0 0] 24)).setRow pkv #[.int .i64 x1, .int .i64 y1, .int .i64 z1, .int .i64 uu1, .slice A1 n1 c1] = P1 at *
      dsimp only [Act.put]
      clear hpp hbn
      have lk := hk.out.lt
      have la := ka.out.lt
      have cv := kv.out.cell
      have lv := kv.out.lt
      refine wp_region_ext P1.heap.size (by kernel_rfl) (by kernel_rfl) ?_
      repeat (first | (go_big_quiet_want; refine quiet_load_row 27 _ rfl _ rfl _ _ _ hk.out (by first | assumption | omega) Try.underlying27 rfl triInfo ?_; simp only [Act.put, List.setIfInBounds_toArray, List.set_cons_zero, List.set_cons_succ]; go_big_quiet_on) | (go_big_quiet_want; refine quiet_load_sub 28 _ rfl _ 2 rfl _ _ #[.int .i64 0, .int .i64 65536] _ ka.out (by first | assumption | omega) rfl Try.underlying28 rfl i2Info ?_; simp only [Act.put, List.setIfInBounds_toArray, List.set_cons_zero, List.set_cons_succ]; go_big_quiet_on) | go_big_quiet_step (first | (go_at_call 17; exact ext_call (Nat.le_refl _) (hL1.out _)) | (go_at_call 19; exact ext_call (Nat.le_refl _) (hE1.out _))))
      refine wpQuiet_nil ?_
      intro Q1 hwx
      obtain ⟨⟨Q1, hb⟩, rfl⟩ := hwx
      clear lk la cv lv
      replace hk := Lib.hid (hk.out.call hb)
      replace k0 := Lib.hid (k0.out.call hb)
      replace k1 := Lib.hid (k1.out.call hb)
      replace k2 := Lib.hid (k2.out.call hb)
      replace ka := Lib.hid (ka.out.call hb)
      replace kv := Lib.hid (kv.out.call hb)
      replace hB := Lib.hid (below_on hB.out hb)
      clear hb
      go_upto_region 10 with fail
      go_cut [86] (fun v W' => v = .bool false ∧ Below Q1.heap.size Q1 W')
      case first =>
        have lk := hk.out.lt
        have ck := hk.out.cell
        have cv := kv.out.cell
        have lv := kv.out.lt
        cases s0 : smallB z0 with
        | false =>
          refine wp_region_ext Q1.heap.size (by kernel_rfl) (by kernel_rfl) ?_
          repeat (go_big_quiet_step (first | (go_at_call_of 26 (Value.int IntKind.i64 z0); exact ext_same (small_at z0 false s0 _))))
          refine wpQuiet_nil ?_
          intro Q9 hwx
          obtain ⟨⟨Q9, hb⟩, rfl⟩ := hwx
          go_wp2_with fail
          go_meet
          case rel => exact ⟨rfl, hb⟩
        | true =>
          cases s1 : smallB z1 with
          | false =>
            refine wp_region_ext Q1.heap.size (by kernel_rfl) (by kernel_rfl) ?_
            repeat (go_big_quiet_step (first | (go_at_call_of 26 (Value.int IntKind.i64 z0); exact ext_same (small_at z0 true s0 _)) | (go_at_call_of 26 (Value.int IntKind.i64 z1); exact ext_same (small_at z1 false s1 _))))
            refine wpQuiet_nil ?_
            intro Q9 hwx
            obtain ⟨⟨Q9, hb⟩, rfl⟩ := hwx
            go_wp2_with fail
            go_meet
            case rel => exact ⟨rfl, hb⟩
          | true =>
            cases s2 : smallB z2 with
            | false =>
              refine wp_region_ext Q1.heap.size (by kernel_rfl) (by kernel_rfl) ?_
              repeat (go_big_quiet_step (first | (go_at_call_of 26 (Value.int IntKind.i64 z0); exact ext_same (small_at z0 true s0 _)) | (go_at_call_of 26 (Value.int IntKind.i64 z1); exact ext_same (small_at z1 true s1 _)) | (go_at_call_of 26 (Value.int IntKind.i64 z2); exact ext_same (small_at z2 false s2 _))))
              refine wpQuiet_nil ?_
              intro Q9 hwx
              obtain ⟨⟨Q9, hb⟩, rfl⟩ := hwx
              go_wp2_with fail
              go_meet
              case rel => exact ⟨rfl, hb⟩
            | true =>
              have m1 := hq1.out
              have m2 := hm1.out
              have hDD := Lib.hid (hD1.out (small_of s0) (small_of s1) (small_of s2))
              refine wp_region_ext Q1.heap.size (by kernel_rfl) (by kernel_rfl) ?_
              repeat (first | (go_big_quiet_want; refine quiet_load_row 27 _ rfl _ rfl _ _ _ hk.out (by first | assumption | omega) Try.underlying27 rfl triInfo ?_; simp only [Act.put, List.setIfInBounds_toArray, List.set_cons_zero, List.set_cons_succ]; go_big_quiet_on) | go_big_quiet_step (first | (go_at_call_of 26 (Value.int IntKind.i64 z0); exact ext_same (small_at z0 true s0 _)) | (go_at_call_of 26 (Value.int IntKind.i64 z1); exact ext_same (small_at z1 true s1 _)) | (go_at_call_of 26 (Value.int IntKind.i64 z2); exact ext_same (small_at z2 true s2 _)) | (go_at_call 21; exact ext_call (Nat.le_refl _) (hDD.out _))))
              refine wpQuiet_nil ?_
              intro Q9 hwx
              obtain ⟨⟨Q9, hb⟩, rfl⟩ := hwx
              go_wp2_with fail
              go_meet
              case rel => exact ⟨rfl, hb⟩
      obtain ⟨rfl, hb⟩ := hcut
      replace hk := Lib.hid (hk.out.call hb)
      replace k0 := Lib.hid (k0.out.call hb)
      replace k1 := Lib.hid (k1.out.call hb)
      replace k2 := Lib.hid (k2.out.call hb)
      replace ka := Lib.hid (ka.out.call hb)
      replace kv := Lib.hid (kv.out.call hb)
      replace hB := Lib.hid (below_on hB.out hb)
      clear hb
      have cv := kv.out.cell
      have lv := kv.out.lt
      go_wp2_with (refine wpList_load_row rfl 27 _ rfl _ rfl _ _ _ _ hk.out Try.underlying27 rfl triInfo ?_)
      clear cv lv
      refine (hV1.out _ k0.out k1.out k2.out).mono ?_
      rintro e S1 ⟨hb, ga, gc, rfl, hs, -⟩
      replace hk := Lib.hid (hk.out.call hb)
      replace k0 := Lib.hid (k0.out.call hb)
      replace k1 := Lib.hid (k1.out.call hb)
      replace k2 := Lib.hid (k2.out.call hb)
      replace ka := Lib.hid (ka.out.call hb)
      replace hB := Lib.hid (below_on hB.out hb)
      replace hs := Lib.hid hs
      clear hb kv
      have ck := hk.out.cell
      have lk := hk.out.lt
      go_wp2_with fail
      clear ck lk
      go_loopw [7, 8, 9, 10] (fun i _ _ _ wr => ∃ j : Nat, j ≤ n0 ∧ i = .int .i64 j ∧ Below S1.heap.size S1 wr)
        (fun i _ _ _ _ => n0 - (intOf i).toNat)
      case atStart => exact ⟨0, by omega, rfl, Below.refl _ _⟩
      case round =>
        obtain ⟨j, hjn, rfl, hb⟩ := hrel
        obtain ⟨T1, rfl⟩ : ∃ q, q = wr := ⟨_, rfl⟩
        replace hb := Lib.hid hb
        by_cases hlt : j < n0
        · have hlt' : (j : Int) < n0 := by omega
          have hj : j ≤ 17592186043904 := by omega
          obtain ⟨a, ea⟩ : ∃ a, compI n0 f0 j = a := ⟨_, rfl⟩
          obtain ⟨b, eb⟩ : ∃ a, compI n1 f1 j = a := ⟨_, rfl⟩
          obtain ⟨c, ec⟩ : ∃ a, compI n2 f2 j = a := ⟨_, rfl⟩
          have fa : f0 j = a := by rw [← ea]; unfold compI; rw [if_pos hlt]
          have hG : Hid (smallB a = true → smallB b = true → smallB c = true → valsAt 0 65536 n1 n2 f0 f1 f2 j = b) := Lib.hid (fun _ _s sc => by
            unfold valsAt
            rw [fa, eb, ec]
            exact mix_second (small_of _s) (small_of sc))
          have k0r := k0.out.call hb.out
          have k1r := k1.out.call hb.out
          have k2r := k2.out.call hb.out
          have hkr := hk.out.call hb.out
          have hA0 := Lib.hid (fun w h => hT0.out j a hj ea w h)
          have hA1 := Lib.hid (fun w h => hT1.out j b hj eb w h)
          have hA2 := Lib.hid (fun w h => hT2.out j c hj ec w h)
          clear ea eb ec fa
          have lk := hkr.lt
          go_wp2_with fail
          refine wp_region_ext T1.heap.size (by kernel_rfl) (by kernel_rfl) ?_
          repeat (first | (go_big_quiet_want; refine quiet_load_row 27 _ rfl _ rfl _ _ _ hkr (by first | assumption | omega) Try.underlying27 rfl triInfo ?_; simp only [Act.put, List.setIfInBounds_toArray, List.set_cons_zero, List.set_cons_succ]; go_big_quiet_on) | go_big_quiet_step (first | (go_at_call_of 27 (Value.int IntKind.i64 0); exact ext_call (Nat.le_refl _) (hA0.out _ (k0r.call (Ext.below _)))) | (go_at_call_of 27 (Value.int IntKind.i64 1); exact ext_call (Nat.le_refl _) (hA1.out _ (k1r.call (Ext.below _)))) | (go_at_call_of 27 (Value.int IntKind.i64 2); exact ext_call (Nat.le_refl _) (hA2.out _ (k2r.call (Ext.below _))))))
          refine wpQuiet_nil ?_
          intro Y1 hwx
          obtain ⟨⟨Y1, hbx⟩, rfl⟩ := hwx
          replace hb := Lib.hid (below_on hb.out hbx)
          clear hbx k0r k1r k2r hkr lk
          go_wp2_with fail
          cases sa : smallB a with
          | false =>
            refine wp_region_ext Y1.heap.size (by kernel_rfl) (by kernel_rfl) ?_
            repeat (go_big_quiet_step (first | (go_at_call_of 26 (Value.int IntKind.i64 a); exact ext_same (small_at a false sa _))))
            refine wpQuiet_nil ?_
            intro Y9 hwx
            obtain ⟨⟨Y9, hbx⟩, rfl⟩ := hwx
            replace hb := Lib.hid (below_on hb.out hbx)
            clear hbx
            go_wp2_with fail
            go_roundw
            case rel => exact ⟨j + 1, by omega, by go_num, hb.out⟩
            case measure => simp [intOf]; omega
          | true =>
            cases sb : smallB b with
            | false =>
              refine wp_region_ext Y1.heap.size (by kernel_rfl) (by kernel_rfl) ?_
              repeat (go_big_quiet_step (first | (go_at_call_of 26 (Value.int IntKind.i64 a); exact ext_same (small_at a true sa _)) | (go_at_call_of 26 (Value.int IntKind.i64 b); exact ext_same (small_at b false sb _))))
              refine wpQuiet_nil ?_
              intro Y9 hwx
              obtain ⟨⟨Y9, hbx⟩, rfl⟩ := hwx
              replace hb := Lib.hid (below_on hb.out hbx)
              clear hbx
              go_wp2_with fail
              go_roundw
              case rel => exact ⟨j + 1, by omega, by go_num, hb.out⟩
              case measure => simp [intOf]; omega
            | true =>
              cases sc : smallB c with
              | false =>
                refine wp_region_ext Y1.heap.size (by kernel_rfl) (by kernel_rfl) ?_
                repeat (go_big_quiet_step (first | (go_at_call_of 26 (Value.int IntKind.i64 a); exact ext_same (small_at a true sa _)) | (go_at_call_of 26 (Value.int IntKind.i64 b); exact ext_same (small_at b true sb _)) | (go_at_call_of 26 (Value.int IntKind.i64 c); exact ext_same (small_at c false sc _))))
                refine wpQuiet_nil ?_
                intro Y9 hwx
                obtain ⟨⟨Y9, hbx⟩, rfl⟩ := hwx
                replace hb := Lib.hid (below_on hb.out hbx)
                clear hbx
                go_wp2_with fail
                go_roundw
                case rel => exact ⟨j + 1, by omega, by go_num, hb.out⟩
                case measure => simp [intOf]; omega
              | true =>
                have hkr := hk.out.call hb.out
                have k1r := k1.out.call hb.out
                have lk := hkr.lt
                obtain ⟨g, rfl, -, -⟩ := hs.out.get hlt
                have e1 : ∀ m : Ext Y1 Y1.heap.size, m.val.cell? (g.add j) = some (.int .i64 b) := fun m => by
                  obtain ⟨g', e, -, h⟩ := ((hs.out.call hb.out).call m.below).get hlt
                  obtain rfl := Option.some.inj e
                  rw [← hG.out sa sb sc]
                  exact h
                refine wp_region_ext Y1.heap.size (by kernel_rfl) (by kernel_rfl) ?_
                repeat (first | (go_big_quiet_want; refine quiet_load_row 27 _ rfl _ rfl _ _ _ hkr (by first | assumption | omega) Try.underlying27 rfl triInfo ?_; simp only [Act.put, List.setIfInBounds_toArray, List.set_cons_zero, List.set_cons_succ]; go_big_quiet_on) | go_big_quiet_step (first | (go_at_call_of 26 (Value.int IntKind.i64 a); exact ext_same (small_at a true sa _)) | (go_at_call_of 26 (Value.int IntKind.i64 b); exact ext_same (small_at b true sb _)) | (go_at_call_of 26 (Value.int IntKind.i64 c); exact ext_same (small_at c true sc _)) | (go_at_call 27; exact ext_call (Nat.le_refl _) (hA1.out _ (k1r.call (Ext.below _))))))
                refine wpQuiet_nil ?_
                intro Y9 hwx
                obtain ⟨⟨Y9, hbx⟩, rfl⟩ := hwx
                replace hb := Lib.hid (below_on hb.out hbx)
                clear hbx
                go_wp2_with fail
                go_roundw
                case rel => exact ⟨j + 1, by omega, by go_num, hb.out⟩
                case measure => simp [intOf]; omega
        · have hlt' : (n0 : Int) ≤ j := by omega
          replace hk := Lib.hid (hk.out.call hb.out)
          replace k0 := Lib.hid (k0.out.call hb.out)
          replace k1 := Lib.hid (k1.out.call hb.out)
          replace k2 := Lib.hid (k2.out.call hb.out)
          replace ka := Lib.hid (ka.out.call hb.out)
          replace hB := Lib.hid (below_on hB.out hb.out)
          clear hb hs
          go_wp2_with fail
          rw [rounds_succ]
          clear hlt hlt' hjn
          go_wp2_with (first | refine wpList_load_sub rfl 24 _ rfl _ 10 rfl _ _ #[.int .i64 x2, .int .i64 y2, .int .i64 z2, .int .i64 uu2, .slice A2 n2 c2] _ _ hk.out rfl Try.underlying24 rfl svInfo ?_ | refine wpList_store_row rfl 24 _ _ rfl T1.heap.size #[.int .i64 x2, .int .i64 y2, .int .i64 z2, .int .i64 uu2, .slice A2 n2 c2] rfl rfl 24 _ (Blk.new T1 24 #[.int .i64 0, .int .i64 0, .int .i64 0, .int .i64 0, .slice none 0 0]) svInfo rfl (by kernel_rfl) ?_)
          obtain ⟨pkv, hpp⟩ : ∃ g, T1.heap.size = g := ⟨_, rfl⟩
          simp only [hpp]
          have hbn : Below T1.heap.size T1 ((T1.alloc (.cells #[.int .i64 0, .int .i64 0, .int .i64 0, .int .i64 0, .slice none 0 0] 24)).setRow pkv #[.int .i64 x2, .int .i64 y2, .int .i64 z2, .int .i64 uu2, .slice A2 n2 c2]) := below_setRow ((Below.refl _ _).alloc (Nat.le_refl _) (.cells #[.int .i64 0, .int .i64 0, .int .i64 0, .int .i64 0, .slice none 0 0] 24)) (Nat.le_of_eq hpp) #[.int .i64 x2, .int .i64 y2, .int .i64 z2, .int .i64 uu2, .slice A2 n2 c2]
          have kv := Lib.hid (Blk.setRow (Blk.new_at (t := 24) (cs := #[.int .i64 0, .int .i64 0, .int .i64 0, .int .i64 0, .slice none 0 0]) hpp) #[.int .i64 x2, .int .i64 y2, .int .i64 z2, .int .i64 uu2, .slice A2 n2 c2])
          replace hk := Lib.hid (hk.out.call hbn)
          replace k0 := Lib.hid (k0.out.call hbn)
          replace k1 := Lib.hid (k1.out.call hbn)
          replace k2 := Lib.hid (k2.out.call hbn)
          replace ka := Lib.hid (ka.out.call hbn)
          replace hB := Lib.hid (below_on hB.out hbn)
          generalize (T1.alloc (.cells #[.int .i64 0, .int .i64 0, .int .i64 0, .int .i64 0, .slice none 0 0] 24)).setRow pkv #[.int .i64 x2, .int .i64 y2, .int .i64 z2, .int .i64 uu2, .slice A2 n2 c2] = P2 at *
          dsimp only [Act.put]
          clear hpp hbn
          have lk := hk.out.lt
          have la := ka.out.lt
          have cv := kv.out.cell
          have lv := kv.out.lt
          refine wp_region_ext P2.heap.size (by kernel_rfl) (by kernel_rfl) ?_
          repeat (first | (go_big_quiet_want; refine quiet_load_row 27 _ rfl _ rfl _ _ _ hk.out (by first | assumption | omega) Try.underlying27 rfl triInfo ?_; simp only [Act.put, List.setIfInBounds_toArray, List.set_cons_zero, List.set_cons_succ]; go_big_quiet_on) | (go_big_quiet_want; refine quiet_load_sub 28 _ rfl _ 4 rfl _ _ #[.int .i64 0, .int .i64 0] _ ka.out (by first | assumption | omega) rfl Try.underlying28 rfl i2Info ?_; simp only [Act.put, List.setIfInBounds_toArray, List.set_cons_zero, List.set_cons_succ]; go_big_quiet_on) | go_big_quiet_step (first | (go_at_call 17; exact ext_call (Nat.le_refl _) (hL2.out _)) | (go_at_call 19; exact ext_call (Nat.le_refl _) (hE2.out _))))
          refine wpQuiet_nil ?_
          intro Q2 hwx
          obtain ⟨⟨Q2, hb⟩, rfl⟩ := hwx
          clear lk la cv lv
          replace hk := Lib.hid (hk.out.call hb)
          replace k0 := Lib.hid (k0.out.call hb)
          replace k1 := Lib.hid (k1.out.call hb)
          replace k2 := Lib.hid (k2.out.call hb)
          replace ka := Lib.hid (ka.out.call hb)
          replace kv := Lib.hid (kv.out.call hb)
          replace hB := Lib.hid (below_on hB.out hb)
          clear hb
          go_upto_region 10 with fail
          go_cut [86] (fun v W' => v = .bool false ∧ Below Q2.heap.size Q2 W')
          case first =>
            have lk := hk.out.lt
            have ck := hk.out.cell
            have cv := kv.out.cell
            have lv := kv.out.lt
            cases s0 : smallB z0 with
            | false =>
              refine wp_region_ext Q2.heap.size (by kernel_rfl) (by kernel_rfl) ?_
              repeat (go_big_quiet_step (first | (go_at_call_of 26 (Value.int IntKind.i64 z0); exact ext_same (small_at z0 false s0 _))))
              refine wpQuiet_nil ?_
              intro Q9 hwx
              obtain ⟨⟨Q9, hb⟩, rfl⟩ := hwx
              go_wp2_with fail
              go_meet
              case rel => exact ⟨rfl, hb⟩
            | true =>
              cases s1 : smallB z1 with
              | false =>
                refine wp_region_ext Q2.heap.size (by kernel_rfl) (by kernel_rfl) ?_
                repeat (go_big_quiet_step (first | (go_at_call_of 26 (Value.int IntKind.i64 z0); exact ext_same (small_at z0 true s0 _)) | (go_at_call_of 26 (Value.int IntKind.i64 z1); exact ext_same (small_at z1 false s1 _))))
                refine wpQuiet_nil ?_
                intro Q9 hwx
                obtain ⟨⟨Q9, hb⟩, rfl⟩ := hwx
                go_wp2_with fail
                go_meet
                case rel => exact ⟨rfl, hb⟩
              | true =>
                cases s2 : smallB z2 with
                | false =>
                  refine wp_region_ext Q2.heap.size (by kernel_rfl) (by kernel_rfl) ?_
                  repeat (go_big_quiet_step (first | (go_at_call_of 26 (Value.int IntKind.i64 z0); exact ext_same (small_at z0 true s0 _)) | (go_at_call_of 26 (Value.int IntKind.i64 z1); exact ext_same (small_at z1 true s1 _)) | (go_at_call_of 26 (Value.int IntKind.i64 z2); exact ext_same (small_at z2 false s2 _))))
                  refine wpQuiet_nil ?_
                  intro Q9 hwx
                  obtain ⟨⟨Q9, hb⟩, rfl⟩ := hwx
                  go_wp2_with fail
                  go_meet
                  case rel => exact ⟨rfl, hb⟩
                | true =>
                  have m1 := hq2.out
                  have m2 := hm2.out
                  have hDD := Lib.hid (hD2.out (small_of s0) (small_of s1) (small_of s2))
                  refine wp_region_ext Q2.heap.size (by kernel_rfl) (by kernel_rfl) ?_
                  repeat (first | (go_big_quiet_want; refine quiet_load_row 27 _ rfl _ rfl _ _ _ hk.out (by first | assumption | omega) Try.underlying27 rfl triInfo ?_; simp only [Act.put, List.setIfInBounds_toArray, List.set_cons_zero, List.set_cons_succ]; go_big_quiet_on) | go_big_quiet_step (first | (go_at_call_of 26 (Value.int IntKind.i64 z0); exact ext_same (small_at z0 true s0 _)) | (go_at_call_of 26 (Value.int IntKind.i64 z1); exact ext_same (small_at z1 true s1 _)) | (go_at_call_of 26 (Value.int IntKind.i64 z2); exact ext_same (small_at z2 true s2 _)) | (go_at_call 21; exact ext_call (Nat.le_refl _) (hDD.out _))))
                  refine wpQuiet_nil ?_
                  intro Q9 hwx
                  obtain ⟨⟨Q9, hb⟩, rfl⟩ := hwx
                  go_wp2_with fail
                  go_meet
                  case rel => exact ⟨rfl, hb⟩
          obtain ⟨rfl, hb⟩ := hcut
          replace hk := Lib.hid (hk.out.call hb)
          replace k0 := Lib.hid (k0.out.call hb)
          replace k1 := Lib.hid (k1.out.call hb)
          replace k2 := Lib.hid (k2.out.call hb)
          replace ka := Lib.hid (ka.out.call hb)
          replace kv := Lib.hid (kv.out.call hb)
          replace hB := Lib.hid (below_on hB.out hb)
          clear hb
          have cv := kv.out.cell
          have lv := kv.out.lt
          go_wp2_with (refine wpList_load_row rfl 27 _ rfl _ rfl _ _ _ _ hk.out Try.underlying27 rfl triInfo ?_)
          clear cv lv
          refine (hV2.out _ k0.out k1.out k2.out).mono ?_
          rintro e S2 ⟨hb, ga, gc, rfl, hs, -⟩
          replace hk := Lib.hid (hk.out.call hb)
          replace k0 := Lib.hid (k0.out.call hb)
          replace k1 := Lib.hid (k1.out.call hb)
          replace k2 := Lib.hid (k2.out.call hb)
          replace ka := Lib.hid (ka.out.call hb)
          replace hB := Lib.hid (below_on hB.out hb)
          replace hs := Lib.hid hs
          clear hb kv
          have ck := hk.out.cell
          have lk := hk.out.lt
          go_wp2_with fail
          clear ck lk
          go_loopw [7, 8, 9, 10] (fun i _ _ _ wr => ∃ j : Nat, j ≤ n0 ∧ i = .int .i64 j ∧ Below S2.heap.size S2 wr)
            (fun i _ _ _ _ => n0 - (intOf i).toNat)
          case atStart => exact ⟨0, by omega, rfl, Below.refl _ _⟩
          case round =>
            obtain ⟨j, hjn, rfl, hb⟩ := hrel
            obtain ⟨T2, rfl⟩ : ∃ q, q = wr := ⟨_, rfl⟩
            replace hb := Lib.hid hb
            by_cases hlt : j < n0
            · have hlt' : (j : Int) < n0 := by omega
              have hj : j ≤ 17592186043904 := by omega
              obtain ⟨a, ea⟩ : ∃ a, compI n0 f0 j = a := ⟨_, rfl⟩
              obtain ⟨b, eb⟩ : ∃ a, compI n1 f1 j = a := ⟨_, rfl⟩
              obtain ⟨c, ec⟩ : ∃ a, compI n2 f2 j = a := ⟨_, rfl⟩
              have fa : f0 j = a := by rw [← ea]; unfold compI; rw [if_pos hlt]
              have hG : Hid (smallB a = true → smallB b = true → smallB c = true → valsAt 0 0 n1 n2 f0 f1 f2 j = c) := Lib.hid (fun _ _ sc => by
                unfold valsAt
                rw [fa, eb, ec]
                exact mix_third (small_of sc))
              have k0r := k0.out.call hb.out
              have k1r := k1.out.call hb.out
              have k2r := k2.out.call hb.out
              have hkr := hk.out.call hb.out
              have hA0 := Lib.hid (fun w h => hT0.out j a hj ea w h)
              have hA1 := Lib.hid (fun w h => hT1.out j b hj eb w h)
              have hA2 := Lib.hid (fun w h => hT2.out j c hj ec w h)
              clear ea eb ec fa
              have lk := hkr.lt
              go_wp2_with fail
              refine wp_region_ext T2.heap.size (by kernel_rfl) (by kernel_rfl) ?_
              repeat (first | (go_big_quiet_want; refine quiet_load_row 27 _ rfl _ rfl _ _ _ hkr (by first | assumption | omega) Try.underlying27 rfl triInfo ?_; simp only [Act.put, List.setIfInBounds_toArray, List.set_cons_zero, List.set_cons_succ]; go_big_quiet_on) | go_big_quiet_step (first | (go_at_call_of 27 (Value.int IntKind.i64 0); exact ext_call (Nat.le_refl _) (hA0.out _ (k0r.call (Ext.below _)))) | (go_at_call_of 27 (Value.int IntKind.i64 1); exact ext_call (Nat.le_refl _) (hA1.out _ (k1r.call (Ext.below _)))) | (go_at_call_of 27 (Value.int IntKind.i64 2); exact ext_call (Nat.le_refl _) (hA2.out _ (k2r.call (Ext.below _))))))
              refine wpQuiet_nil ?_
              intro Y2 hwx
              obtain ⟨⟨Y2, hbx⟩, rfl⟩ := hwx
              replace hb := Lib.hid (below_on hb.out hbx)
              clear hbx k0r k1r k2r hkr lk
              go_wp2_with fail
              cases sa : smallB a with
              | false =>
                refine wp_region_ext Y2.heap.size (by kernel_rfl) (by kernel_rfl) ?_
                repeat (go_big_quiet_step (first | (go_at_call_of 26 (Value.int IntKind.i64 a); exact ext_same (small_at a false sa _))))
                refine wpQuiet_nil ?_
                intro Y9 hwx
                obtain ⟨⟨Y9, hbx⟩, rfl⟩ := hwx
                replace hb := Lib.hid (below_on hb.out hbx)
                clear hbx
                go_wp2_with fail
                go_roundw
                case rel => exact ⟨j + 1, by omega, by go_num, hb.out⟩
                case measure => simp [intOf]; omega
              | true =>
                cases sb : smallB b with
                | false =>
                  refine wp_region_ext Y2.heap.size (by kernel_rfl) (by kernel_rfl) ?_
                  repeat (go_big_quiet_step (first | (go_at_call_of 26 (Value.int IntKind.i64 a); exact ext_same (small_at a true sa _)) | (go_at_call_of 26 (Value.int IntKind.i64 b); exact ext_same (small_at b false sb _))))
                  refine wpQuiet_nil ?_
                  intro Y9 hwx
                  obtain ⟨⟨Y9, hbx⟩, rfl⟩ := hwx
                  replace hb := Lib.hid (below_on hb.out hbx)
                  clear hbx
                  go_wp2_with fail
                  go_roundw
                  case rel => exact ⟨j + 1, by omega, by go_num, hb.out⟩
                  case measure => simp [intOf]; omega
                | true =>
                  cases sc : smallB c with
                  | false =>
                    refine wp_region_ext Y2.heap.size (by kernel_rfl) (by kernel_rfl) ?_
                    repeat (go_big_quiet_step (first | (go_at_call_of 26 (Value.int IntKind.i64 a); exact ext_same (small_at a true sa _)) | (go_at_call_of 26 (Value.int IntKind.i64 b); exact ext_same (small_at b true sb _)) | (go_at_call_of 26 (Value.int IntKind.i64 c); exact ext_same (small_at c false sc _))))
                    refine wpQuiet_nil ?_
                    intro Y9 hwx
                    obtain ⟨⟨Y9, hbx⟩, rfl⟩ := hwx
                    replace hb := Lib.hid (below_on hb.out hbx)
                    clear hbx
                    go_wp2_with fail
                    go_roundw
                    case rel => exact ⟨j + 1, by omega, by go_num, hb.out⟩
                    case measure => simp [intOf]; omega
                  | true =>
                    have hkr := hk.out.call hb.out
                    have k2r := k2.out.call hb.out
                    have lk := hkr.lt
                    obtain ⟨g, rfl, -, -⟩ := hs.out.get hlt
                    have e1 : ∀ m : Ext Y2 Y2.heap.size, m.val.cell? (g.add j) = some (.int .i64 c) := fun m => by
                      obtain ⟨g', e, -, h⟩ := ((hs.out.call hb.out).call m.below).get hlt
                      obtain rfl := Option.some.inj e
                      rw [← hG.out sa sb sc]
                      exact h
                    refine wp_region_ext Y2.heap.size (by kernel_rfl) (by kernel_rfl) ?_
                    repeat (first | (go_big_quiet_want; refine quiet_load_row 27 _ rfl _ rfl _ _ _ hkr (by first | assumption | omega) Try.underlying27 rfl triInfo ?_; simp only [Act.put, List.setIfInBounds_toArray, List.set_cons_zero, List.set_cons_succ]; go_big_quiet_on) | go_big_quiet_step (first | (go_at_call_of 26 (Value.int IntKind.i64 a); exact ext_same (small_at a true sa _)) | (go_at_call_of 26 (Value.int IntKind.i64 b); exact ext_same (small_at b true sb _)) | (go_at_call_of 26 (Value.int IntKind.i64 c); exact ext_same (small_at c true sc _)) | (go_at_call 27; exact ext_call (Nat.le_refl _) (hA2.out _ (k2r.call (Ext.below _))))))
                    refine wpQuiet_nil ?_
                    intro Y9 hwx
                    obtain ⟨⟨Y9, hbx⟩, rfl⟩ := hwx
                    replace hb := Lib.hid (below_on hb.out hbx)
                    clear hbx
                    go_wp2_with fail
                    go_roundw
                    case rel => exact ⟨j + 1, by omega, by go_num, hb.out⟩
                    case measure => simp [intOf]; omega
            · have hlt' : (n0 : Int) ≤ j := by omega
              replace hk := Lib.hid (hk.out.call hb.out)
              replace k0 := Lib.hid (k0.out.call hb.out)
              replace k1 := Lib.hid (k1.out.call hb.out)
              replace k2 := Lib.hid (k2.out.call hb.out)
              replace ka := Lib.hid (ka.out.call hb.out)
              replace hB := Lib.hid (below_on hB.out hb.out)
              clear hb hs
              go_wp2_with fail
              rw [rounds_succ]
              clear hlt hlt' hjn
              go_wp2_with fail
              refine (example_true _).mono ?_
              rintro e V9 ⟨rfl, hb⟩
              replace hB := Lib.hid (below_on hB.out hb)
              clear hb
              go_wp2
              go_ret
              exact ⟨rfl, hB.out⟩
set_option maxRecDepth 100000 in
set_option maxHeartbeats 8000000 in
theorem vert_no (x0 y0 z0 u0 x1 y1 z1 u1 x2 y2 z2 u2 : Int) (A0 A1 A2 : Option Addr) (n0 c0 n1 c1 n2 c2 : Nat) (pr : Int) (fr : Bool) (w : World) (hv : validB x0 y0 x1 y1 x2 y2 = false) :
    Calls Try.prog 7 #[.agg #[.int .i64 x0, .int .i64 y0, .int .i64 z0, .int .i64 u0, .slice A0 n0 c0, .int .i64 x1, .int .i64 y1, .int .i64 z1, .int .i64 u1, .slice A1 n1 c1, .int .i64 x2, .int .i64 y2, .int .i64 z2, .int .i64 u2, .slice A2 n2 c2, .int .i64 pr, .bool fr]] w fun e w' => e = .returned (.bool true) ∧ Below w.heap.size w w' := by
  have hw : ∀ a b c d e f : Int, max 0 (wtI (validB x0 y0 x1 y1 x2 y2) a b c d e f) = 0 := fun a b c d e f => by
    rw [hv]
    unfold wtI
    simp
  have hL := Lib.hid (fun w => linear_at x0 y0 z0 u0 x1 y1 z1 u1 x2 y2 z2 u2 A0 A1 A2 n0 c0 n1 c1 n2 c2 pr fr 0 0 w 0 0 0 (hw ..) (hw ..) (hw ..) 0 0 (ratio_zero _) (ratio_zero _))
  replace hv := Lib.hid (fun w => valid_at x0 y0 z0 u0 x1 y1 z1 u1 x2 y2 z2 u2 A0 A1 A2 n0 c0 n1 c1 n2 c2 pr fr w false hv)
  have hk := Lib.hid (Blk.new w 27 #[.int .i64 x0, .int .i64 y0, .int .i64 z0, .int .i64 u0, .slice A0 n0 c0, .int .i64 x1, .int .i64 y1, .int .i64 z1, .int .i64 u1, .slice A1 n1 c1, .int .i64 x2, .int .i64 y2, .int .i64 z2, .int .i64 u2, .slice A2 n2 c2, .int .i64 pr, .bool fr])
  have hB : Hid (Below w.heap.size w (w.alloc (.cells #[.int .i64 x0, .int .i64 y0, .int .i64 z0, .int .i64 u0, .slice A0 n0 c0, .int .i64 x1, .int .i64 y1, .int .i64 z1, .int .i64 u1, .slice A1 n1 c1, .int .i64 x2, .int .i64 y2, .int .i64 z2, .int .i64 u2, .slice A2 n2 c2, .int .i64 pr, .bool fr] 27))) := Lib.hid (by go_grown)
  clear hw
  go_enter Try.func7, Try.ntmps7
  go_wp2_with (refine wpList_load_row rfl 27 _ rfl _ rfl _ _ _ _ hk.out Try.underlying27 rfl triInfo ?_)
  refine (hv.out _).mono ?_
  rintro e V0 ⟨rfl, hb⟩
  replace hk := Lib.hid (hk.out.call hb)
  replace hB := Lib.hid (below_on hB.out hb)
  clear hb
  go_wp2_with (refine wpList_load_row rfl 27 _ rfl _ rfl _ _ _ _ hk.out Try.underlying27 rfl triInfo ?_)
  refine (hL.out _).mono ?_
  rintro e V1 ⟨rfl, hb⟩
  replace hk := Lib.hid (hk.out.call hb)
  replace hB := Lib.hid (below_on hB.out hb)
  clear hb
  go_wp2_with fail
  refine (example_true _).mono ?_
  rintro e V2 ⟨rfl, hb⟩
  replace hB := Lib.hid (below_on hB.out hb)
  clear hb
  go_wp2
  go_ret
  exact ⟨rfl, hB.out⟩
theorem law_vertices (x0 y0 z0 u0 x1 y1 z1 u1 x2 y2 z2 u2 : Int) (A0 A1 A2 : Option Addr) (n0 c0 n1 c1 n2 c2 : Nat) (pr : Int) (fr : Bool) (w : World) (hn0 : n0 ≤ 17592186043904) (hn1 : n1 ≤ 17592186043904) (hn2 : n2 ≤ 17592186043904) (f0 f1 f2 : Nat → Int) (k0 : Sl w A0 n0 c0 f0) (k1 : Sl w A1 n1 c1 f1) (k2 : Sl w A2 n2 c2 f2) :
    Calls Try.prog 7 #[.agg #[.int .i64 x0, .int .i64 y0, .int .i64 z0, .int .i64 u0, .slice A0 n0 c0, .int .i64 x1, .int .i64 y1, .int .i64 z1, .int .i64 u1, .slice A1 n1 c1, .int .i64 x2, .int .i64 y2, .int .i64 z2, .int .i64 u2, .slice A2 n2 c2, .int .i64 pr, .bool fr]] w fun e w' => e = .returned (.bool true) ∧ Below w.heap.size w w' := by
  cases hv : validB x0 y0 x1 y1 x2 y2 with
  | true => exact vert_yes x0 y0 z0 u0 x1 y1 z1 u1 x2 y2 z2 u2 A0 A1 A2 n0 c0 n1 c1 n2 c2 pr fr w hn0 hn1 hn2 f0 f1 f2 k0 k1 k2 hv
  | false => exact vert_no x0 y0 z0 u0 x1 y1 z1 u1 x2 y2 z2 u2 A0 A1 A2 n0 c0 n1 c1 n2 c2 pr fr w hv
end Go.Proofs.Ythbagegkcpblgaa
