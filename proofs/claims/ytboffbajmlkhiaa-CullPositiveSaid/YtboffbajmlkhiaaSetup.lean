/- Setup of package cull. -/
import Derived.Test.YtboffbajmlkhiaaOrient
import Derived.Test.YtboffbajmlkhiaaCullKM
import Derived.Test.YtboffbajmlkhiaaStSub
namespace Go.Proofs.Ytboffbajmlkhiaa
open Go.RowKit
set_option maxRecDepth 100000 in
set_option maxHeartbeats 16000000 in
theorem setup_no (x0 y0 z0 u0 x1 y1 z1 u1 x2 y2 z2 u2 : Int) (n0 n1 n2 : Nat)  (A0 A1 A2 : Option Addr) (c0 c1 c2 : Nat) (mo pr : Int) (cw : Bool) (w : World)  (hkp : keepB (areaI x0 y0 x1 y1 x2 y2) mo cw = false) :
    Calls Try.prog 18 #[.agg #[.int .i64 x0, .int .i64 y0, .int .i64 z0, .int .i64 u0, .slice A0 n0 c0, .int .i64 x1, .int .i64 y1, .int .i64 z1, .int .i64 u1, .slice A1 n1 c1, .int .i64 x2, .int .i64 y2, .int .i64 z2, .int .i64 u2, .slice A2 n2 c2], .int .i64 mo, .bool cw, .int .i64 pr] w fun e w' => e = .returned (.tuple #[.agg #[.int .i64 0, .int .i64 0, .int .i64 0, .int .i64 0, .slice none 0 0, .int .i64 0, .int .i64 0, .int .i64 0, .int .i64 0, .slice none 0 0, .int .i64 0, .int .i64 0, .int .i64 0, .int .i64 0, .slice none 0 0, .int .i64 0, .bool false], .bool false]) ∧ Below w.heap.size w w' := by
  have ha := Lib.hid ((Blk.new w 25 #[.int .i64 x0, .int .i64 y0, .int .i64 z0, .int .i64 u0, .slice A0 n0 c0, .int .i64 x1, .int .i64 y1, .int .i64 z1, .int .i64 u1, .slice A1 n1 c1, .int .i64 x2, .int .i64 y2, .int .i64 z2, .int .i64 u2, .slice A2 n2 c2]).alloc (.cells #[.int .i64 0, .int .i64 0, .int .i64 0, .int .i64 0, .slice none 0 0, .int .i64 0, .int .i64 0, .int .i64 0, .int .i64 0, .slice none 0 0, .int .i64 0, .int .i64 0, .int .i64 0, .int .i64 0, .slice none 0 0, .int .i64 0, .bool false] 35))
  have hb := Lib.hid (Blk.new1 w 35 #[.int .i64 0, .int .i64 0, .int .i64 0, .int .i64 0, .slice none 0 0, .int .i64 0, .int .i64 0, .int .i64 0, .int .i64 0, .slice none 0 0, .int .i64 0, .int .i64 0, .int .i64 0, .int .i64 0, .slice none 0 0, .int .i64 0, .bool false] (.cells #[.int .i64 x0, .int .i64 y0, .int .i64 z0, .int .i64 u0, .slice A0 n0 c0, .int .i64 x1, .int .i64 y1, .int .i64 z1, .int .i64 u1, .slice A1 n1 c1, .int .i64 x2, .int .i64 y2, .int .i64 z2, .int .i64 u2, .slice A2 n2 c2] 25))
  have hB : Hid (Below w.heap.size w ((w.alloc (.cells #[.int .i64 x0, .int .i64 y0, .int .i64 z0, .int .i64 u0, .slice A0 n0 c0, .int .i64 x1, .int .i64 y1, .int .i64 z1, .int .i64 u1, .slice A1 n1 c1, .int .i64 x2, .int .i64 y2, .int .i64 z2, .int .i64 u2, .slice A2 n2 c2] 25)).alloc (.cells #[.int .i64 0, .int .i64 0, .int .i64 0, .int .i64 0, .slice none 0 0, .int .i64 0, .int .i64 0, .int .i64 0, .int .i64 0, .slice none 0 0, .int .i64 0, .int .i64 0, .int .i64 0, .int .i64 0, .slice none 0 0, .int .i64 0, .bool false] 35))) := Lib.hid (by go_grown)
  obtain ⟨a, har⟩ : ∃ a, areaI x0 y0 x1 y1 x2 y2 = a := ⟨_, rfl⟩
  rw [har] at hkp
  replace har := Lib.hid har
  replace hkp := Lib.hid hkp
  go_enter Try.func18, Try.ntmps18
  go_wp2_with (refine wpList_load_row rfl 25 _ rfl _ rfl _ _ _ _ ha.out Try.underlying25 rfl t3Info ?_)
  refine (area_at _ _ _ _ _ _ _ _ _ _ _ _ _ _ _ _ _ _ _ _ _ _ _ har.out).mono ?_
  rintro e W0 ⟨rfl, hb2⟩
  replace ha := Lib.hid (ha.out.call hb2)
  replace hb := Lib.hid (hb.out.call hb2)
  replace hB := Lib.hid (below_on hB.out hb2)
  clear hb2
  go_wp2_with fail
  refine (keep_at _ _ _ _ _ hkp.out).mono ?_
  rintro e xw ⟨rfl, rfl⟩
  go_wp2_with (first | refine wpList_buildTo rfl 35 _ rfl #[.int .i64 0, .int .i64 0, .int .i64 0, .int .i64 0, .slice none 0 0, .int .i64 0, .int .i64 0, .int .i64 0, .int .i64 0, .slice none 0 0, .int .i64 0, .int .i64 0, .int .i64 0, .int .i64 0, .slice none 0 0, .int .i64 0, .bool false] (by kernel_rfl) ?_ | refine wpList_store_row rfl 35 _ _ rfl (w.heap.size + 1) #[.int .i64 0, .int .i64 0, .int .i64 0, .int .i64 0, .slice none 0 0, .int .i64 0, .int .i64 0, .int .i64 0, .int .i64 0, .slice none 0 0, .int .i64 0, .int .i64 0, .int .i64 0, .int .i64 0, .slice none 0 0, .int .i64 0, .bool false] rfl rfl 35 _ hb.out ttInfo rfl (by kernel_rfl) ?_)
  refine bodyPost_ret (results_row_tmp rfl _ _ (w.heap.size + 1) _ #[.int .i64 0, .int .i64 0, .int .i64 0, .int .i64 0, .slice none 0 0, .int .i64 0, .int .i64 0, .int .i64 0, .int .i64 0, .slice none 0 0, .int .i64 0, .int .i64 0, .int .i64 0, .int .i64 0, .slice none 0 0, .int .i64 0, .bool false] _ _ rfl (hb.out.setRow _) Try.underlying35 rfl ttInfo) rfl ?_
  exact ⟨rfl, below_setRow hB.out (by omega) _⟩
set_option maxRecDepth 100000 in
set_option maxHeartbeats 16000000 in
theorem setup_keep (x0 y0 z0 u0 x1 y1 z1 u1 x2 y2 z2 u2 : Int) (n0 n1 n2 : Nat) (h0 : n0 ≤ 17592186043904) (h1 : n1 ≤ 17592186043904) (h2 : n2 ≤ 17592186043904) (f0 f1 f2 : Nat → Int) (A0 A1 A2 : Option Addr) (c0 c1 c2 : Nat) (mo pr : Int) (cw : Bool) (w : World) (k0 : Sl w A0 n0 c0 f0) (k1 : Sl w A1 n1 c1 f1) (k2 : Sl w A2 n2 c2 f2) (hn : 0 ≤ areaI x0 y0 x1 y1 x2 y2) (hkp : keepB (areaI x0 y0 x1 y1 x2 y2) mo cw = true) :
    Calls Try.prog 18 #[.agg #[.int .i64 x0, .int .i64 y0, .int .i64 z0, .int .i64 u0, .slice A0 n0 c0, .int .i64 x1, .int .i64 y1, .int .i64 z1, .int .i64 u1, .slice A1 n1 c1, .int .i64 x2, .int .i64 y2, .int .i64 z2, .int .i64 u2, .slice A2 n2 c2], .int .i64 mo, .bool cw, .int .i64 pr] w fun e w' => Below w.heap.size w w' ∧ ∃ B0 B1 B2 d0 d1 d2, e = .returned (.tuple #[.agg #[.int .i64 x0, .int .i64 y0, .int .i64 z0, .int .i64 u0, .slice B0 n0 d0, .int .i64 x1, .int .i64 y1, .int .i64 z1, .int .i64 u1, .slice B1 n1 d1, .int .i64 x2, .int .i64 y2, .int .i64 z2, .int .i64 u2, .slice B2 n2 d2, .int .i64 pr, .bool (frontB (areaI x0 y0 x1 y1 x2 y2) cw)], .bool true]) ∧ Sl w' B0 n0 d0 f0 ∧ Sl w' B1 n1 d1 f1 ∧ Sl w' B2 n2 d2 f2 := by
  have ha := Lib.hid ((Blk.new w 25 #[.int .i64 x0, .int .i64 y0, .int .i64 z0, .int .i64 u0, .slice A0 n0 c0, .int .i64 x1, .int .i64 y1, .int .i64 z1, .int .i64 u1, .slice A1 n1 c1, .int .i64 x2, .int .i64 y2, .int .i64 z2, .int .i64 u2, .slice A2 n2 c2]).alloc (.cells #[.int .i64 0, .int .i64 0, .int .i64 0, .int .i64 0, .slice none 0 0, .int .i64 0, .int .i64 0, .int .i64 0, .int .i64 0, .slice none 0 0, .int .i64 0, .int .i64 0, .int .i64 0, .int .i64 0, .slice none 0 0, .int .i64 0, .bool false] 35))
  have hb := Lib.hid (Blk.new1 w 35 #[.int .i64 0, .int .i64 0, .int .i64 0, .int .i64 0, .slice none 0 0, .int .i64 0, .int .i64 0, .int .i64 0, .int .i64 0, .slice none 0 0, .int .i64 0, .int .i64 0, .int .i64 0, .int .i64 0, .slice none 0 0, .int .i64 0, .bool false] (.cells #[.int .i64 x0, .int .i64 y0, .int .i64 z0, .int .i64 u0, .slice A0 n0 c0, .int .i64 x1, .int .i64 y1, .int .i64 z1, .int .i64 u1, .slice A1 n1 c1, .int .i64 x2, .int .i64 y2, .int .i64 z2, .int .i64 u2, .slice A2 n2 c2] 25))
  have hB : Hid (Below w.heap.size w ((w.alloc (.cells #[.int .i64 x0, .int .i64 y0, .int .i64 z0, .int .i64 u0, .slice A0 n0 c0, .int .i64 x1, .int .i64 y1, .int .i64 z1, .int .i64 u1, .slice A1 n1 c1, .int .i64 x2, .int .i64 y2, .int .i64 z2, .int .i64 u2, .slice A2 n2 c2] 25)).alloc (.cells #[.int .i64 0, .int .i64 0, .int .i64 0, .int .i64 0, .slice none 0 0, .int .i64 0, .int .i64 0, .int .i64 0, .int .i64 0, .slice none 0 0, .int .i64 0, .int .i64 0, .int .i64 0, .int .i64 0, .slice none 0 0, .int .i64 0, .bool false] 35))) := Lib.hid (by go_grown)
  replace k0 := Lib.hid (k0.call hB.out)
  replace k1 := Lib.hid (k1.call hB.out)
  replace k2 := Lib.hid (k2.call hB.out)
  replace hn := Lib.hid hn
  obtain ⟨a, har⟩ : ∃ a, areaI x0 y0 x1 y1 x2 y2 = a := ⟨_, rfl⟩
  rw [har] at hkp
  obtain ⟨fr, hfr⟩ : ∃ b, frontB a cw = b := ⟨_, rfl⟩
  rw [har, hfr]
  replace hfr := Lib.hid hfr
  replace har := Lib.hid har
  replace hkp := Lib.hid hkp
  go_enter Try.func18, Try.ntmps18
  go_wp2_with (refine wpList_load_row rfl 25 _ rfl _ rfl _ _ _ _ ha.out Try.underlying25 rfl t3Info ?_)
  refine (area_at _ _ _ _ _ _ _ _ _ _ _ _ _ _ _ _ _ _ _ _ _ _ _ har.out).mono ?_
  rintro e W0 ⟨rfl, hb2⟩
  replace ha := Lib.hid (ha.out.call hb2)
  replace hb := Lib.hid (hb.out.call hb2)
  replace hB := Lib.hid (below_on hB.out hb2)
  replace k0 := Lib.hid (k0.out.call hb2)
  replace k1 := Lib.hid (k1.out.call hb2)
  replace k2 := Lib.hid (k2.out.call hb2)
  clear hb2
  go_wp2_with fail
  refine (keep_at _ _ _ _ _ hkp.out).mono ?_
  rintro e xw ⟨rfl, rfl⟩
  go_wp2_with (refine wpList_load_row rfl 25 _ rfl _ rfl _ _ _ _ ha.out Try.underlying25 rfl t3Info ?_)
  refine (orient_keep x0 y0 z0 u0 x1 y1 z1 u1 x2 y2 z2 u2 n0 n1 n2 h0 h1 h2 f0 f1 f2 A0 A1 A2 c0 c1 c2 _ k0.out k1.out k2.out hn.out).mono ?_
  have lb := hb.out.lt
  rintro e W1 ⟨hb2, B0, B1, B2, d0, d1, d2, rfl, s0, s1, s2, r0, r1, r2⟩
  replace hb := Lib.hid (hb.out.call hb2)
  replace hB := Lib.hid (below_on hB.out hb2)
  have q0 := Lib.hid s0
  have q1 := Lib.hid s1
  have q2 := Lib.hid s2
  replace r0 := Lib.hid (fun a e => Nat.lt_of_lt_of_le lb (r0 a e))
  replace r1 := Lib.hid (fun a e => Nat.lt_of_lt_of_le lb (r1 a e))
  replace r2 := Lib.hid (fun a e => Nat.lt_of_lt_of_le lb (r2 a e))
  clear hb2 s0 s1 s2 lb
  go_wp2_with fail
  refine (front_at _ _ _ _ hfr.out).mono ?_
  rintro e xw ⟨rfl, rfl⟩
  go_wp2_with (first | refine wpList_buildTo rfl 35 _ rfl #[.int .i64 x0, .int .i64 y0, .int .i64 z0, .int .i64 u0, .slice B0 n0 d0, .int .i64 x1, .int .i64 y1, .int .i64 z1, .int .i64 u1, .slice B1 n1 d1, .int .i64 x2, .int .i64 y2, .int .i64 z2, .int .i64 u2, .slice B2 n2 d2, .int .i64 pr, .bool fr] (by kernel_rfl) ?_ | refine wpList_store_row rfl 35 _ _ rfl (w.heap.size + 1) #[.int .i64 x0, .int .i64 y0, .int .i64 z0, .int .i64 u0, .slice B0 n0 d0, .int .i64 x1, .int .i64 y1, .int .i64 z1, .int .i64 u1, .slice B1 n1 d1, .int .i64 x2, .int .i64 y2, .int .i64 z2, .int .i64 u2, .slice B2 n2 d2, .int .i64 pr, .bool fr] rfl rfl 35 _ hb.out ttInfo rfl (by kernel_rfl) ?_)
  refine bodyPost_ret (results_row_tmp rfl _ _ (w.heap.size + 1) _ #[.int .i64 x0, .int .i64 y0, .int .i64 z0, .int .i64 u0, .slice B0 n0 d0, .int .i64 x1, .int .i64 y1, .int .i64 z1, .int .i64 u1, .slice B1 n1 d1, .int .i64 x2, .int .i64 y2, .int .i64 z2, .int .i64 u2, .slice B2 n2 d2, .int .i64 pr, .bool fr] _ _ rfl (hb.out.setRow _) Try.underlying35 rfl ttInfo) rfl ?_
  exact ⟨below_setRow hB.out (by omega) _, B0, B1, B2, d0, d1, d2, rfl, q0.out.setRow (fun a e => by have := r0.out a e; omega) _, q1.out.setRow (fun a e => by have := r1.out a e; omega) _, q2.out.setRow (fun a e => by have := r2.out a e; omega) _⟩
set_option maxRecDepth 100000 in
set_option maxHeartbeats 16000000 in
theorem setup_swap (x0 y0 z0 u0 x1 y1 z1 u1 x2 y2 z2 u2 : Int) (n0 n1 n2 : Nat) (h0 : n0 ≤ 17592186043904) (h1 : n1 ≤ 17592186043904) (h2 : n2 ≤ 17592186043904) (f0 f1 f2 : Nat → Int) (A0 A1 A2 : Option Addr) (c0 c1 c2 : Nat) (mo pr : Int) (cw : Bool) (w : World) (k0 : Sl w A0 n0 c0 f0) (k1 : Sl w A1 n1 c1 f1) (k2 : Sl w A2 n2 c2 f2) (hn : areaI x0 y0 x1 y1 x2 y2 < 0) (hkp : keepB (areaI x0 y0 x1 y1 x2 y2) mo cw = true) :
    Calls Try.prog 18 #[.agg #[.int .i64 x0, .int .i64 y0, .int .i64 z0, .int .i64 u0, .slice A0 n0 c0, .int .i64 x1, .int .i64 y1, .int .i64 z1, .int .i64 u1, .slice A1 n1 c1, .int .i64 x2, .int .i64 y2, .int .i64 z2, .int .i64 u2, .slice A2 n2 c2], .int .i64 mo, .bool cw, .int .i64 pr] w fun e w' => Below w.heap.size w w' ∧ ∃ B0 B1 B2 d0 d1 d2, e = .returned (.tuple #[.agg #[.int .i64 x0, .int .i64 y0, .int .i64 z0, .int .i64 u0, .slice B0 n0 d0, .int .i64 x2, .int .i64 y2, .int .i64 z2, .int .i64 u2, .slice B2 n2 d2, .int .i64 x1, .int .i64 y1, .int .i64 z1, .int .i64 u1, .slice B1 n1 d1, .int .i64 pr, .bool (frontB (areaI x0 y0 x1 y1 x2 y2) cw)], .bool true]) ∧ Sl w' B0 n0 d0 f0 ∧ Sl w' B1 n1 d1 f1 ∧ Sl w' B2 n2 d2 f2 := by
  have ha := Lib.hid ((Blk.new w 25 #[.int .i64 x0, .int .i64 y0, .int .i64 z0, .int .i64 u0, .slice A0 n0 c0, .int .i64 x1, .int .i64 y1, .int .i64 z1, .int .i64 u1, .slice A1 n1 c1, .int .i64 x2, .int .i64 y2, .int .i64 z2, .int .i64 u2, .slice A2 n2 c2]).alloc (.cells #[.int .i64 0, .int .i64 0, .int .i64 0, .int .i64 0, .slice none 0 0, .int .i64 0, .int .i64 0, .int .i64 0, .int .i64 0, .slice none 0 0, .int .i64 0, .int .i64 0, .int .i64 0, .int .i64 0, .slice none 0 0, .int .i64 0, .bool false] 35))
  have hb := Lib.hid (Blk.new1 w 35 #[.int .i64 0, .int .i64 0, .int .i64 0, .int .i64 0, .slice none 0 0, .int .i64 0, .int .i64 0, .int .i64 0, .int .i64 0, .slice none 0 0, .int .i64 0, .int .i64 0, .int .i64 0, .int .i64 0, .slice none 0 0, .int .i64 0, .bool false] (.cells #[.int .i64 x0, .int .i64 y0, .int .i64 z0, .int .i64 u0, .slice A0 n0 c0, .int .i64 x1, .int .i64 y1, .int .i64 z1, .int .i64 u1, .slice A1 n1 c1, .int .i64 x2, .int .i64 y2, .int .i64 z2, .int .i64 u2, .slice A2 n2 c2] 25))
  have hB : Hid (Below w.heap.size w ((w.alloc (.cells #[.int .i64 x0, .int .i64 y0, .int .i64 z0, .int .i64 u0, .slice A0 n0 c0, .int .i64 x1, .int .i64 y1, .int .i64 z1, .int .i64 u1, .slice A1 n1 c1, .int .i64 x2, .int .i64 y2, .int .i64 z2, .int .i64 u2, .slice A2 n2 c2] 25)).alloc (.cells #[.int .i64 0, .int .i64 0, .int .i64 0, .int .i64 0, .slice none 0 0, .int .i64 0, .int .i64 0, .int .i64 0, .int .i64 0, .slice none 0 0, .int .i64 0, .int .i64 0, .int .i64 0, .int .i64 0, .slice none 0 0, .int .i64 0, .bool false] 35))) := Lib.hid (by go_grown)
  replace k0 := Lib.hid (k0.call hB.out)
  replace k1 := Lib.hid (k1.call hB.out)
  replace k2 := Lib.hid (k2.call hB.out)
  replace hn := Lib.hid hn
  obtain ⟨a, har⟩ : ∃ a, areaI x0 y0 x1 y1 x2 y2 = a := ⟨_, rfl⟩
  rw [har] at hkp
  obtain ⟨fr, hfr⟩ : ∃ b, frontB a cw = b := ⟨_, rfl⟩
  rw [har, hfr]
  replace hfr := Lib.hid hfr
  replace har := Lib.hid har
  replace hkp := Lib.hid hkp
  go_enter Try.func18, Try.ntmps18
  go_wp2_with (refine wpList_load_row rfl 25 _ rfl _ rfl _ _ _ _ ha.out Try.underlying25 rfl t3Info ?_)
  refine (area_at _ _ _ _ _ _ _ _ _ _ _ _ _ _ _ _ _ _ _ _ _ _ _ har.out).mono ?_
  rintro e W0 ⟨rfl, hb2⟩
  replace ha := Lib.hid (ha.out.call hb2)
  replace hb := Lib.hid (hb.out.call hb2)
  replace hB := Lib.hid (below_on hB.out hb2)
  replace k0 := Lib.hid (k0.out.call hb2)
  replace k1 := Lib.hid (k1.out.call hb2)
  replace k2 := Lib.hid (k2.out.call hb2)
  clear hb2
  go_wp2_with fail
  refine (keep_at _ _ _ _ _ hkp.out).mono ?_
  rintro e xw ⟨rfl, rfl⟩
  go_wp2_with (refine wpList_load_row rfl 25 _ rfl _ rfl _ _ _ _ ha.out Try.underlying25 rfl t3Info ?_)
  refine (orient_swap x0 y0 z0 u0 x1 y1 z1 u1 x2 y2 z2 u2 n0 n1 n2 h0 h1 h2 f0 f1 f2 A0 A1 A2 c0 c1 c2 _ k0.out k1.out k2.out hn.out).mono ?_
  have lb := hb.out.lt
  rintro e W1 ⟨hb2, B0, B1, B2, d0, d1, d2, rfl, s0, s1, s2, r0, r1, r2⟩
  replace hb := Lib.hid (hb.out.call hb2)
  replace hB := Lib.hid (below_on hB.out hb2)
  have q0 := Lib.hid s0
  have q1 := Lib.hid s1
  have q2 := Lib.hid s2
  replace r0 := Lib.hid (fun a e => Nat.lt_of_lt_of_le lb (r0 a e))
  replace r1 := Lib.hid (fun a e => Nat.lt_of_lt_of_le lb (r1 a e))
  replace r2 := Lib.hid (fun a e => Nat.lt_of_lt_of_le lb (r2 a e))
  clear hb2 s0 s1 s2 lb
  go_wp2_with fail
  refine (front_at _ _ _ _ hfr.out).mono ?_
  rintro e xw ⟨rfl, rfl⟩
  go_wp2_with (first | refine wpList_buildTo rfl 35 _ rfl #[.int .i64 x0, .int .i64 y0, .int .i64 z0, .int .i64 u0, .slice B0 n0 d0, .int .i64 x2, .int .i64 y2, .int .i64 z2, .int .i64 u2, .slice B2 n2 d2, .int .i64 x1, .int .i64 y1, .int .i64 z1, .int .i64 u1, .slice B1 n1 d1, .int .i64 pr, .bool fr] (by kernel_rfl) ?_ | refine wpList_store_row rfl 35 _ _ rfl (w.heap.size + 1) #[.int .i64 x0, .int .i64 y0, .int .i64 z0, .int .i64 u0, .slice B0 n0 d0, .int .i64 x2, .int .i64 y2, .int .i64 z2, .int .i64 u2, .slice B2 n2 d2, .int .i64 x1, .int .i64 y1, .int .i64 z1, .int .i64 u1, .slice B1 n1 d1, .int .i64 pr, .bool fr] rfl rfl 35 _ hb.out ttInfo rfl (by kernel_rfl) ?_)
  refine bodyPost_ret (results_row_tmp rfl _ _ (w.heap.size + 1) _ #[.int .i64 x0, .int .i64 y0, .int .i64 z0, .int .i64 u0, .slice B0 n0 d0, .int .i64 x2, .int .i64 y2, .int .i64 z2, .int .i64 u2, .slice B2 n2 d2, .int .i64 x1, .int .i64 y1, .int .i64 z1, .int .i64 u1, .slice B1 n1 d1, .int .i64 pr, .bool fr] _ _ rfl (hb.out.setRow _) Try.underlying35 rfl ttInfo) rfl ?_
  exact ⟨below_setRow hB.out (by omega) _, B0, B1, B2, d0, d1, d2, rfl, q0.out.setRow (fun a e => by have := r0.out a e; omega) _, q1.out.setRow (fun a e => by have := r1.out a e; omega) _, q2.out.setRow (fun a e => by have := r2.out a e; omega) _⟩
end Go.Proofs.Ytboffbajmlkhiaa
