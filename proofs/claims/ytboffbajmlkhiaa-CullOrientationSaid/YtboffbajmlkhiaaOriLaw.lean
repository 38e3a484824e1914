/- CullOrientation returns true for every corner. -/
import Derived.Test.YtboffbajmlkhiaaSetup
import Derived.Test.YtboffbajmlkhiaaSetupR
namespace Go.Proofs.Ytboffbajmlkhiaa
open Go.RowKit
attribute [local go_sem] Ext.cell
theorem sl_made {W : World} {A : Option Addr} {n c : Nat} {f : Nat → Int} (h : Sl W A n c f) (O : Obj) (cs : Array Value) : Sl ((W.alloc O).setRow W.heap.size cs) A n c f :=
  (h.alloc O).setRowN (sl_lt h) cs
set_option maxRecDepth 100000 in
set_option maxHeartbeats 16000000 in
theorem ori_no_keep (x0 y0 z0 u0 x1 y1 z1 u1 x2 y2 z2 u2 : Int) (n0 n1 n2 : Nat) (h0 : n0 ≤ 17592186043904) (h1 : n1 ≤ 17592186043904) (h2 : n2 ≤ 17592186043904) (f0 f1 f2 : Nat → Int) (A0 A1 A2 : Option Addr) (c0 c1 c2 : Nat) (mo pr : Int) (cw : Bool) (w : World) (k0 : Sl w A0 n0 c0 f0) (k1 : Sl w A1 n1 c1 f1) (k2 : Sl w A2 n2 c2 f2) (hn : 0 ≤ areaI x0 y0 x1 y1 x2 y2) (hkp : keepB (areaI x0 y0 x1 y1 x2 y2) mo cw = false) :
    Calls Try.prog 7 #[.agg #[.int .i64 x0, .int .i64 y0, .int .i64 z0, .int .i64 u0, .slice A0 n0 c0, .int .i64 x1, .int .i64 y1, .int .i64 z1, .int .i64 u1, .slice A1 n1 c1, .int .i64 x2, .int .i64 y2, .int .i64 z2, .int .i64 u2, .slice A2 n2 c2, .int .i64 mo, .bool cw, .int .i64 pr]] w fun e w' => e = .returned (.bool true) ∧ Below w.heap.size w w' := by
  have hc := Lib.hid (Blk.new w 33 #[.int .i64 x0, .int .i64 y0, .int .i64 z0, .int .i64 u0, .slice A0 n0 c0, .int .i64 x1, .int .i64 y1, .int .i64 z1, .int .i64 u1, .slice A1 n1 c1, .int .i64 x2, .int .i64 y2, .int .i64 z2, .int .i64 u2, .slice A2 n2 c2, .int .i64 mo, .bool cw, .int .i64 pr])
  have hB : Hid (Below w.heap.size w (w.alloc (.cells #[.int .i64 x0, .int .i64 y0, .int .i64 z0, .int .i64 u0, .slice A0 n0 c0, .int .i64 x1, .int .i64 y1, .int .i64 z1, .int .i64 u1, .slice A1 n1 c1, .int .i64 x2, .int .i64 y2, .int .i64 z2, .int .i64 u2, .slice A2 n2 c2, .int .i64 mo, .bool cw, .int .i64 pr] 33))) := Lib.hid (by go_grown)
  replace k0 := Lib.hid (k0.call hB.out)
  replace k1 := Lib.hid (k1.call hB.out)
  replace k2 := Lib.hid (k2.call hB.out)
  replace hn := Lib.hid hn
  replace hkp := Lib.hid hkp
  go_enter Try.func7, Try.ntmps7
  have cc := hc.out.cell
  go_wp2_with (refine wpList_load_sub rfl 25 _ rfl _ 0 rfl _ _ #[.int .i64 x0, .int .i64 y0, .int .i64 z0, .int .i64 u0, .slice A0 n0 c0, .int .i64 x1, .int .i64 y1, .int .i64 z1, .int .i64 u1, .slice A1 n1 c1, .int .i64 x2, .int .i64 y2, .int .i64 z2, .int .i64 u2, .slice A2 n2 c2] _ _ hc.out rfl Try.underlying25 rfl t3Info ?_)
  refine (setup_no x0 y0 z0 u0 x1 y1 z1 u1 x2 y2 z2 u2 n0 n1 n2 A0 A1 A2 c0 c1 c2 mo pr cw _ hkp.out).mono ?_
  rintro e W1 ⟨rfl, hb⟩
  clear cc
  replace hc := Lib.hid (hc.out.call hb)
  replace k0 := Lib.hid (k0.out.call hb)
  replace k1 := Lib.hid (k1.out.call hb)
  replace k2 := Lib.hid (k2.out.call hb)
  replace hB := Lib.hid (below_on hB.out hb)
  clear hb
  go_upto_region 2 with (refine wpList_store_row rfl 35 _ _ rfl W1.heap.size #[.int .i64 0, .int .i64 0, .int .i64 0, .int .i64 0, .slice none 0 0, .int .i64 0, .int .i64 0, .int .i64 0, .int .i64 0, .slice none 0 0, .int .i64 0, .int .i64 0, .int .i64 0, .int .i64 0, .slice none 0 0, .int .i64 0, .bool false] rfl rfl 35 _ (Blk.new W1 35 #[.int .i64 0, .int .i64 0, .int .i64 0, .int .i64 0, .slice none 0 0, .int .i64 0, .int .i64 0, .int .i64 0, .int .i64 0, .slice none 0 0, .int .i64 0, .int .i64 0, .int .i64 0, .int .i64 0, .slice none 0 0, .int .i64 0, .bool false]) ttInfo rfl (by kernel_rfl) ?_)
  have ht1 := Lib.hid (Blk.setRow (Blk.new W1 35 #[.int .i64 0, .int .i64 0, .int .i64 0, .int .i64 0, .slice none 0 0, .int .i64 0, .int .i64 0, .int .i64 0, .int .i64 0, .slice none 0 0, .int .i64 0, .int .i64 0, .int .i64 0, .int .i64 0, .slice none 0 0, .int .i64 0, .bool false]) #[.int .i64 0, .int .i64 0, .int .i64 0, .int .i64 0, .slice none 0 0, .int .i64 0, .int .i64 0, .int .i64 0, .int .i64 0, .slice none 0 0, .int .i64 0, .int .i64 0, .int .i64 0, .int .i64 0, .slice none 0 0, .int .i64 0, .bool false])
  replace hc := Lib.hid ((hc.out.alloc (.cells #[.int .i64 0, .int .i64 0, .int .i64 0, .int .i64 0, .slice none 0 0, .int .i64 0, .int .i64 0, .int .i64 0, .int .i64 0, .slice none 0 0, .int .i64 0, .int .i64 0, .int .i64 0, .int .i64 0, .slice none 0 0, .int .i64 0, .bool false] 35)).farRow (Nat.ne_of_lt hc.out.lt) #[.int .i64 0, .int .i64 0, .int .i64 0, .int .i64 0, .slice none 0 0, .int .i64 0, .int .i64 0, .int .i64 0, .int .i64 0, .slice none 0 0, .int .i64 0, .int .i64 0, .int .i64 0, .int .i64 0, .slice none 0 0, .int .i64 0, .bool false])
  replace k0 := Lib.hid (sl_made k0.out (.cells #[.int .i64 0, .int .i64 0, .int .i64 0, .int .i64 0, .slice none 0 0, .int .i64 0, .int .i64 0, .int .i64 0, .int .i64 0, .slice none 0 0, .int .i64 0, .int .i64 0, .int .i64 0, .int .i64 0, .slice none 0 0, .int .i64 0, .bool false] 35) #[.int .i64 0, .int .i64 0, .int .i64 0, .int .i64 0, .slice none 0 0, .int .i64 0, .int .i64 0, .int .i64 0, .int .i64 0, .slice none 0 0, .int .i64 0, .int .i64 0, .int .i64 0, .int .i64 0, .slice none 0 0, .int .i64 0, .bool false])
  replace k1 := Lib.hid (sl_made k1.out (.cells #[.int .i64 0, .int .i64 0, .int .i64 0, .int .i64 0, .slice none 0 0, .int .i64 0, .int .i64 0, .int .i64 0, .int .i64 0, .slice none 0 0, .int .i64 0, .int .i64 0, .int .i64 0, .int .i64 0, .slice none 0 0, .int .i64 0, .bool false] 35) #[.int .i64 0, .int .i64 0, .int .i64 0, .int .i64 0, .slice none 0 0, .int .i64 0, .int .i64 0, .int .i64 0, .int .i64 0, .slice none 0 0, .int .i64 0, .int .i64 0, .int .i64 0, .int .i64 0, .slice none 0 0, .int .i64 0, .bool false])
  replace k2 := Lib.hid (sl_made k2.out (.cells #[.int .i64 0, .int .i64 0, .int .i64 0, .int .i64 0, .slice none 0 0, .int .i64 0, .int .i64 0, .int .i64 0, .int .i64 0, .slice none 0 0, .int .i64 0, .int .i64 0, .int .i64 0, .int .i64 0, .slice none 0 0, .int .i64 0, .bool false] 35) #[.int .i64 0, .int .i64 0, .int .i64 0, .int .i64 0, .slice none 0 0, .int .i64 0, .int .i64 0, .int .i64 0, .int .i64 0, .slice none 0 0, .int .i64 0, .int .i64 0, .int .i64 0, .int .i64 0, .slice none 0 0, .int .i64 0, .bool false])
  replace hB := Lib.hid (below_setRow (hB.out.alloc hB.out.size (.cells #[.int .i64 0, .int .i64 0, .int .i64 0, .int .i64 0, .slice none 0 0, .int .i64 0, .int .i64 0, .int .i64 0, .int .i64 0, .slice none 0 0, .int .i64 0, .int .i64 0, .int .i64 0, .int .i64 0, .slice none 0 0, .int .i64 0, .bool false] 35)) hB.out.size #[.int .i64 0, .int .i64 0, .int .i64 0, .int .i64 0, .slice none 0 0, .int .i64 0, .int .i64 0, .int .i64 0, .int .i64 0, .slice none 0 0, .int .i64 0, .int .i64 0, .int .i64 0, .int .i64 0, .slice none 0 0, .int .i64 0, .bool false])
  generalize (W1.alloc (.cells #[.int .i64 0, .int .i64 0, .int .i64 0, .int .i64 0, .slice none 0 0, .int .i64 0, .int .i64 0, .int .i64 0, .int .i64 0, .slice none 0 0, .int .i64 0, .int .i64 0, .int .i64 0, .int .i64 0, .slice none 0 0, .int .i64 0, .bool false] 35)).setRow W1.heap.size #[.int .i64 0, .int .i64 0, .int .i64 0, .int .i64 0, .slice none 0 0, .int .i64 0, .int .i64 0, .int .i64 0, .int .i64 0, .slice none 0 0, .int .i64 0, .int .i64 0, .int .i64 0, .int .i64 0, .slice none 0 0, .int .i64 0, .bool false] = X1 at *
  have cc := hc.out.cell
  go_wp2_with (refine wpList_load_sub rfl 25 _ rfl _ 0 rfl _ _ #[.int .i64 x0, .int .i64 y0, .int .i64 z0, .int .i64 u0, .slice A0 n0 c0, .int .i64 x1, .int .i64 y1, .int .i64 z1, .int .i64 u1, .slice A1 n1 c1, .int .i64 x2, .int .i64 y2, .int .i64 z2, .int .i64 u2, .slice A2 n2 c2] _ _ hc.out rfl Try.underlying25 rfl t3Info ?_)
  refine (rSetup_no x0 y0 z0 u0 x1 y1 z1 u1 x2 y2 z2 u2 n0 n1 n2 A0 A1 A2 c0 c1 c2 mo pr cw _ hkp.out).mono ?_
  rintro e W2 ⟨rfl, hb⟩
  clear cc
  replace hc := Lib.hid (hc.out.call hb)
  replace k0 := Lib.hid (k0.out.call hb)
  replace k1 := Lib.hid (k1.out.call hb)
  replace k2 := Lib.hid (k2.out.call hb)
  replace ht1 := Lib.hid (ht1.out.call hb)
  replace hB := Lib.hid (below_on hB.out hb)
  clear hb
  go_upto_region 3 with (refine wpList_store_row rfl 35 _ _ rfl W2.heap.size #[.int .i64 0, .int .i64 0, .int .i64 0, .int .i64 0, .slice none 0 0, .int .i64 0, .int .i64 0, .int .i64 0, .int .i64 0, .slice none 0 0, .int .i64 0, .int .i64 0, .int .i64 0, .int .i64 0, .slice none 0 0, .int .i64 0, .bool false] rfl rfl 35 _ (Blk.new W2 35 #[.int .i64 0, .int .i64 0, .int .i64 0, .int .i64 0, .slice none 0 0, .int .i64 0, .int .i64 0, .int .i64 0, .int .i64 0, .slice none 0 0, .int .i64 0, .int .i64 0, .int .i64 0, .int .i64 0, .slice none 0 0, .int .i64 0, .bool false]) ttInfo rfl (by kernel_rfl) ?_)
  have ht2 := Lib.hid (Blk.setRow (Blk.new W2 35 #[.int .i64 0, .int .i64 0, .int .i64 0, .int .i64 0, .slice none 0 0, .int .i64 0, .int .i64 0, .int .i64 0, .int .i64 0, .slice none 0 0, .int .i64 0, .int .i64 0, .int .i64 0, .int .i64 0, .slice none 0 0, .int .i64 0, .bool false]) #[.int .i64 0, .int .i64 0, .int .i64 0, .int .i64 0, .slice none 0 0, .int .i64 0, .int .i64 0, .int .i64 0, .int .i64 0, .slice none 0 0, .int .i64 0, .int .i64 0, .int .i64 0, .int .i64 0, .slice none 0 0, .int .i64 0, .bool false])
  replace hc := Lib.hid ((hc.out.alloc (.cells #[.int .i64 0, .int .i64 0, .int .i64 0, .int .i64 0, .slice none 0 0, .int .i64 0, .int .i64 0, .int .i64 0, .int .i64 0, .slice none 0 0, .int .i64 0, .int .i64 0, .int .i64 0, .int .i64 0, .slice none 0 0, .int .i64 0, .bool false] 35)).farRow (Nat.ne_of_lt hc.out.lt) #[.int .i64 0, .int .i64 0, .int .i64 0, .int .i64 0, .slice none 0 0, .int .i64 0, .int .i64 0, .int .i64 0, .int .i64 0, .slice none 0 0, .int .i64 0, .int .i64 0, .int .i64 0, .int .i64 0, .slice none 0 0, .int .i64 0, .bool false])
  replace k0 := Lib.hid (sl_made k0.out (.cells #[.int .i64 0, .int .i64 0, .int .i64 0, .int .i64 0, .slice none 0 0, .int .i64 0, .int .i64 0, .int .i64 0, .int .i64 0, .slice none 0 0, .int .i64 0, .int .i64 0, .int .i64 0, .int .i64 0, .slice none 0 0, .int .i64 0, .bool false] 35) #[.int .i64 0, .int .i64 0, .int .i64 0, .int .i64 0, .slice none 0 0, .int .i64 0, .int .i64 0, .int .i64 0, .int .i64 0, .slice none 0 0, .int .i64 0, .int .i64 0, .int .i64 0, .int .i64 0, .slice none 0 0, .int .i64 0, .bool false])
  replace k1 := Lib.hid (sl_made k1.out (.cells #[.int .i64 0, .int .i64 0, .int .i64 0, .int .i64 0, .slice none 0 0, .int .i64 0, .int .i64 0, .int .i64 0, .int .i64 0, .slice none 0 0, .int .i64 0, .int .i64 0, .int .i64 0, .int .i64 0, .slice none 0 0, .int .i64 0, .bool false] 35) #[.int .i64 0, .int .i64 0, .int .i64 0, .int .i64 0, .slice none 0 0, .int .i64 0, .int .i64 0, .int .i64 0, .int .i64 0, .slice none 0 0, .int .i64 0, .int .i64 0, .int .i64 0, .int .i64 0, .slice none 0 0, .int .i64 0, .bool false])
  replace k2 := Lib.hid (sl_made k2.out (.cells #[.int .i64 0, .int .i64 0, .int .i64 0, .int .i64 0, .slice none 0 0, .int .i64 0, .int .i64 0, .int .i64 0, .int .i64 0, .slice none 0 0, .int .i64 0, .int .i64 0, .int .i64 0, .int .i64 0, .slice none 0 0, .int .i64 0, .bool false] 35) #[.int .i64 0, .int .i64 0, .int .i64 0, .int .i64 0, .slice none 0 0, .int .i64 0, .int .i64 0, .int .i64 0, .int .i64 0, .slice none 0 0, .int .i64 0, .int .i64 0, .int .i64 0, .int .i64 0, .slice none 0 0, .int .i64 0, .bool false])
  replace ht1 := Lib.hid ((ht1.out.alloc (.cells #[.int .i64 0, .int .i64 0, .int .i64 0, .int .i64 0, .slice none 0 0, .int .i64 0, .int .i64 0, .int .i64 0, .int .i64 0, .slice none 0 0, .int .i64 0, .int .i64 0, .int .i64 0, .int .i64 0, .slice none 0 0, .int .i64 0, .bool false] 35)).farRow (Nat.ne_of_lt ht1.out.lt) #[.int .i64 0, .int .i64 0, .int .i64 0, .int .i64 0, .slice none 0 0, .int .i64 0, .int .i64 0, .int .i64 0, .int .i64 0, .slice none 0 0, .int .i64 0, .int .i64 0, .int .i64 0, .int .i64 0, .slice none 0 0, .int .i64 0, .bool false])
  replace hB := Lib.hid (below_setRow (hB.out.alloc hB.out.size (.cells #[.int .i64 0, .int .i64 0, .int .i64 0, .int .i64 0, .slice none 0 0, .int .i64 0, .int .i64 0, .int .i64 0, .int .i64 0, .slice none 0 0, .int .i64 0, .int .i64 0, .int .i64 0, .int .i64 0, .slice none 0 0, .int .i64 0, .bool false] 35)) hB.out.size #[.int .i64 0, .int .i64 0, .int .i64 0, .int .i64 0, .slice none 0 0, .int .i64 0, .int .i64 0, .int .i64 0, .int .i64 0, .slice none 0 0, .int .i64 0, .int .i64 0, .int .i64 0, .int .i64 0, .slice none 0 0, .int .i64 0, .bool false])
  generalize (W2.alloc (.cells #[.int .i64 0, .int .i64 0, .int .i64 0, .int .i64 0, .slice none 0 0, .int .i64 0, .int .i64 0, .int .i64 0, .int .i64 0, .slice none 0 0, .int .i64 0, .int .i64 0, .int .i64 0, .int .i64 0, .slice none 0 0, .int .i64 0, .bool false] 35)).setRow W2.heap.size #[.int .i64 0, .int .i64 0, .int .i64 0, .int .i64 0, .slice none 0 0, .int .i64 0, .int .i64 0, .int .i64 0, .int .i64 0, .slice none 0 0, .int .i64 0, .int .i64 0, .int .i64 0, .int .i64 0, .slice none 0 0, .int .i64 0, .bool false] = X2 at *
  have cc := hc.out.cell
  have lc := hc.out.lt
  have l1 := ht1.out.lt
  have l2 := ht2.out.lt
  go_wp2_with fail
  refine wp_region_noPanic ?_
  refine wp_region_held_drew (S := fun w' => ∃ n : Ext X2 (X2.heap.size), w' = n.val) (by kernel_rfl) ⟨⟨X2.drew, (Below.refl _ _).drew⟩, rfl⟩ (fun _ => ?_)
  refine held_quiets (fun _ _ _ _ _ h => h) (by kernel_rfl) ⟨⟨_, (((Below.refl _ _).drew).mono (Nat.le_refl _))⟩, rfl⟩ [0, 1, 2, 3, 4, 5] _ _ _ (by kernel_rfl) (by kernel_rfl) (of_decide_eq_true (by kernel_rfl)) ?_
  simp only [List.filterMap, List.getElem?_toArray, List.getElem?_cons_succ, List.getElem?_cons_zero]
  repeat (first | (go_big_quiet_want; refine quiet_load_row 35 _ rfl _ rfl _ _ _ ht1.out (by first | assumption | omega) Try.underlying35 rfl ttInfo ?_; simp only [Act.put, List.setIfInBounds_toArray, List.set_cons_zero, List.set_cons_succ]; go_big_quiet_on) | (go_big_quiet_want; refine quiet_load_row 35 _ rfl _ rfl _ _ _ ht2.out (by first | assumption | omega) Try.underlying35 rfl ttInfo ?_; simp only [Act.put, List.setIfInBounds_toArray, List.set_cons_zero, List.set_cons_succ]; go_big_quiet_on) | (go_big_quiet_want; refine quiet_load_sub 25 _ rfl _ 0 rfl _ _ #[.int .i64 x0, .int .i64 y0, .int .i64 z0, .int .i64 u0, .slice A0 n0 c0, .int .i64 x1, .int .i64 y1, .int .i64 z1, .int .i64 u1, .slice A1 n1 c1, .int .i64 x2, .int .i64 y2, .int .i64 z2, .int .i64 u2, .slice A2 n2 c2] _ hc.out (by first | assumption | omega) rfl Try.underlying25 rfl t3Info ?_; simp only [Act.put, List.setIfInBounds_toArray, List.set_cons_zero, List.set_cons_succ]; go_big_quiet_on) | go_big_quiet_step (fail))
  refine wpQuiet_nil ?_
  refine held_heavy (i := 6) (by kernel_rfl) rfl (by rfl) (of_decide_eq_true (by kernel_rfl)) (fun K hK => ?_)
  go_simp
  refine (sameTriangle_sl 0 0 0 0 0 0 0 0 0 0 0 0 0 0 0 (Nat.zero_le _) (Nat.zero_le _) (Nat.zero_le _) (fun _ => 0) (fun _ => 0) (fun _ => 0) none none none none none none 0 0 0 0 0 0 0 false _ (Sl.none _ _) (Sl.none _ _) (Sl.none _ _) (Sl.none _ _) (Sl.none _ _) (Sl.none _ _)).mono ?_
  rintro e U1 ⟨rfl, hv1⟩
  have hbU1 : Below X2.heap.size X2 U1 := (((Below.refl _ _).drew).trans (hv1.mono (Nat.le_refl _)))
  replace k0 := Lib.hid (k0.out.drew.call hv1)
  replace k1 := Lib.hid (k1.out.drew.call hv1)
  replace k2 := Lib.hid (k2.out.drew.call hv1)
  refine hK _ _ ⟨⟨U1, (hbU1.mono (Nat.le_refl _))⟩, rfl⟩ ?_
  clear hK K
  try simp only [Act.put, List.setIfInBounds_toArray, List.set_cons_zero, List.set_cons_succ]
  refine held_quiets (fun _ _ _ _ _ h => h) (by kernel_rfl) ⟨⟨_, (hbU1.mono (Nat.le_refl _))⟩, rfl⟩ [7, 8, 9, 10, 12, 13] _ _ _ (by kernel_rfl) (by kernel_rfl) (of_decide_eq_true (by kernel_rfl)) ?_
  simp only [List.filterMap, List.getElem?_toArray, List.getElem?_cons_succ, List.getElem?_cons_zero]
  repeat (first | (go_big_quiet_want; refine quiet_load_row 35 _ rfl _ rfl _ _ _ ht1.out (by first | assumption | omega) Try.underlying35 rfl ttInfo ?_; simp only [Act.put, List.setIfInBounds_toArray, List.set_cons_zero, List.set_cons_succ]; go_big_quiet_on) | (go_big_quiet_want; refine quiet_load_row 35 _ rfl _ rfl _ _ _ ht2.out (by first | assumption | omega) Try.underlying35 rfl ttInfo ?_; simp only [Act.put, List.setIfInBounds_toArray, List.set_cons_zero, List.set_cons_succ]; go_big_quiet_on) | (go_big_quiet_want; refine quiet_load_sub 25 _ rfl _ 0 rfl _ _ #[.int .i64 x0, .int .i64 y0, .int .i64 z0, .int .i64 u0, .slice A0 n0 c0, .int .i64 x1, .int .i64 y1, .int .i64 z1, .int .i64 u1, .slice A1 n1 c1, .int .i64 x2, .int .i64 y2, .int .i64 z2, .int .i64 u2, .slice A2 n2 c2] _ hc.out (by first | assumption | omega) rfl Try.underlying25 rfl t3Info ?_; simp only [Act.put, List.setIfInBounds_toArray, List.set_cons_zero, List.set_cons_succ]; go_big_quiet_on) | go_big_quiet_step (fail))
  refine wpQuiet_nil ?_
  refine held_heavy (i := 11) (by kernel_rfl) rfl (by rfl) (of_decide_eq_true (by kernel_rfl)) (fun K hK => ?_)
  go_simp
  refine (orient_keep x0 y0 z0 u0 x1 y1 z1 u1 x2 y2 z2 u2 n0 n1 n2 h0 h1 h2 f0 f1 f2 A0 A1 A2 c0 c1 c2 _ k0.out k1.out k2.out hn.out).mono ?_
  rintro e U2 ⟨hv2, P0, P1, P2, p0, p1, p2, rfl, q0, q1, q2, -, -, -⟩
  have hbU2 : Below X2.heap.size X2 U2 := (below_on hbU1 hv2)
  replace k0 := Lib.hid (k0.out.call hv2)
  replace k1 := Lib.hid (k1.out.call hv2)
  replace k2 := Lib.hid (k2.out.call hv2)
  replace q0 := Lib.hid q0
  replace q1 := Lib.hid q1
  replace q2 := Lib.hid q2
  refine hK _ _ ⟨⟨U2, (hbU2.mono (Nat.le_refl _))⟩, rfl⟩ ?_
  clear hK K
  try simp only [Act.put, List.setIfInBounds_toArray, List.set_cons_zero, List.set_cons_succ]
  refine held_heavy (i := 14) (by kernel_rfl) rfl (by rfl) (of_decide_eq_true (by kernel_rfl)) (fun K hK => ?_)
  go_simp
  refine (rOrient_keep x0 y0 z0 u0 x1 y1 z1 u1 x2 y2 z2 u2 n0 n1 n2 h0 h1 h2 f0 f1 f2 A0 A1 A2 c0 c1 c2 _ k0.out k1.out k2.out hn.out).mono ?_
  rintro e U3 ⟨hv3, R0, R1, R2, r0, r1, r2, rfl, j0, j1, j2, -, -, -⟩
  have hbU3 : Below X2.heap.size X2 U3 := (below_on hbU2 hv3)
  replace q0 := Lib.hid (q0.out.call hv3)
  replace q1 := Lib.hid (q1.out.call hv3)
  replace q2 := Lib.hid (q2.out.call hv3)
  replace j0 := Lib.hid j0
  replace j1 := Lib.hid j1
  replace j2 := Lib.hid j2
  refine hK _ _ ⟨⟨U3, (hbU3.mono (Nat.le_refl _))⟩, rfl⟩ ?_
  clear hK K
  try simp only [Act.put, List.setIfInBounds_toArray, List.set_cons_zero, List.set_cons_succ]
  refine held_heavy (i := 15) (by kernel_rfl) rfl (by rfl) (of_decide_eq_true (by kernel_rfl)) (fun K hK => ?_)
  go_simp
  refine (sameVertices_sl x0 y0 z0 u0 x1 y1 z1 u1 x2 y2 z2 u2 n0 n1 n2 h0 h1 h2 f0 f1 f2 P0 P1 P2 R0 R1 R2 p0 p1 p2 r0 r1 r2 _ q0.out q1.out q2.out j0.out j1.out j2.out).mono ?_
  rintro e U4 ⟨rfl, hv4⟩
  have hbU4 : Below X2.heap.size X2 U4 := (below_on hbU3 hv4)
  refine hK _ _ ⟨⟨U4, (hbU4.mono (Nat.le_refl _))⟩, rfl⟩ ?_
  clear hK K
  try simp only [Act.put, List.setIfInBounds_toArray, List.set_cons_zero, List.set_cons_succ]
  refine held_quiets (fun _ _ _ _ _ h => h) (by kernel_rfl) ⟨⟨_, (hbU4.mono (Nat.le_refl _))⟩, rfl⟩ [16, 17] _ _ _ (by kernel_rfl) (by kernel_rfl) (of_decide_eq_true (by kernel_rfl)) ?_
  simp only [List.filterMap, List.getElem?_toArray, List.getElem?_cons_succ, List.getElem?_cons_zero]
  repeat (first | (go_big_quiet_want; refine quiet_load_row 35 _ rfl _ rfl _ _ _ ht1.out (by first | assumption | omega) Try.underlying35 rfl ttInfo ?_; simp only [Act.put, List.setIfInBounds_toArray, List.set_cons_zero, List.set_cons_succ]; go_big_quiet_on) | (go_big_quiet_want; refine quiet_load_row 35 _ rfl _ rfl _ _ _ ht2.out (by first | assumption | omega) Try.underlying35 rfl ttInfo ?_; simp only [Act.put, List.setIfInBounds_toArray, List.set_cons_zero, List.set_cons_succ]; go_big_quiet_on) | (go_big_quiet_want; refine quiet_load_sub 25 _ rfl _ 0 rfl _ _ #[.int .i64 x0, .int .i64 y0, .int .i64 z0, .int .i64 u0, .slice A0 n0 c0, .int .i64 x1, .int .i64 y1, .int .i64 z1, .int .i64 u1, .slice A1 n1 c1, .int .i64 x2, .int .i64 y2, .int .i64 z2, .int .i64 u2, .slice A2 n2 c2] _ hc.out (by first | assumption | omega) rfl Try.underlying25 rfl t3Info ?_; simp only [Act.put, List.setIfInBounds_toArray, List.set_cons_zero, List.set_cons_succ]; go_big_quiet_on) | go_big_quiet_step (fail))
  refine wpQuiet_nil ?_
  refine held_heavy (i := 18) (by kernel_rfl) rfl (by rfl) (of_decide_eq_true (by kernel_rfl)) (fun K hK => ?_)
  go_simp
  refine (example_true _).mono ?_
  rintro e U5 ⟨rfl, hv5⟩
  have hbU5 : Below X2.heap.size X2 U5 := (below_on hbU4 hv5)
  refine hK _ _ ⟨⟨U5, (hbU5.mono (Nat.le_refl _))⟩, rfl⟩ ?_
  clear hK K
  try simp only [Act.put, List.setIfInBounds_toArray, List.set_cons_zero, List.set_cons_succ]
  refine held_quiets (fun _ _ _ _ _ h => h) (by kernel_rfl) ⟨⟨_, (hbU5.mono (Nat.le_refl _))⟩, rfl⟩ [19, 20] _ _ _ (by kernel_rfl) (by kernel_rfl) (of_decide_eq_true (by kernel_rfl)) ?_
  simp only [List.filterMap, List.getElem?_toArray, List.getElem?_cons_succ, List.getElem?_cons_zero]
  repeat (first | (go_big_quiet_want; refine quiet_load_row 35 _ rfl _ rfl _ _ _ ht1.out (by first | assumption | omega) Try.underlying35 rfl ttInfo ?_; simp only [Act.put, List.setIfInBounds_toArray, List.set_cons_zero, List.set_cons_succ]; go_big_quiet_on) | (go_big_quiet_want; refine quiet_load_row 35 _ rfl _ rfl _ _ _ ht2.out (by first | assumption | omega) Try.underlying35 rfl ttInfo ?_; simp only [Act.put, List.setIfInBounds_toArray, List.set_cons_zero, List.set_cons_succ]; go_big_quiet_on) | (go_big_quiet_want; refine quiet_load_sub 25 _ rfl _ 0 rfl _ _ #[.int .i64 x0, .int .i64 y0, .int .i64 z0, .int .i64 u0, .slice A0 n0 c0, .int .i64 x1, .int .i64 y1, .int .i64 z1, .int .i64 u1, .slice A1 n1 c1, .int .i64 x2, .int .i64 y2, .int .i64 z2, .int .i64 u2, .slice A2 n2 c2] _ hc.out (by first | assumption | omega) rfl Try.underlying25 rfl t3Info ?_; simp only [Act.put, List.setIfInBounds_toArray, List.set_cons_zero, List.set_cons_succ]; go_big_quiet_on) | go_big_quiet_step (fail))
  refine wpQuiet_nil ?_
  refine wpAnyH_done (by kernel_rfl) ?_ _
  refine NoPanic.normal ?_
  replace hB := Lib.hid (below_on hB.out hbU5)
  clear hbU1 hbU2 hbU3 hbU4 hbU5
  go_wp2
  go_ret
  exact ⟨rfl, hB.out⟩
set_option maxRecDepth 100000 in
set_option maxHeartbeats 16000000 in
theorem ori_no_swap (x0 y0 z0 u0 x1 y1 z1 u1 x2 y2 z2 u2 : Int) (n0 n1 n2 : Nat) (h0 : n0 ≤ 17592186043904) (h1 : n1 ≤ 17592186043904) (h2 : n2 ≤ 17592186043904) (f0 f1 f2 : Nat → Int) (A0 A1 A2 : Option Addr) (c0 c1 c2 : Nat) (mo pr : Int) (cw : Bool) (w : World) (k0 : Sl w A0 n0 c0 f0) (k1 : Sl w A1 n1 c1 f1) (k2 : Sl w A2 n2 c2 f2) (hn : areaI x0 y0 x1 y1 x2 y2 < 0) (hkp : keepB (areaI x0 y0 x1 y1 x2 y2) mo cw = false) :
    Calls Try.prog 7 #[.agg #[.int .i64 x0, .int .i64 y0, .int .i64 z0, .int .i64 u0, .slice A0 n0 c0, .int .i64 x1, .int .i64 y1, .int .i64 z1, .int .i64 u1, .slice A1 n1 c1, .int .i64 x2, .int .i64 y2, .int .i64 z2, .int .i64 u2, .slice A2 n2 c2, .int .i64 mo, .bool cw, .int .i64 pr]] w fun e w' => e = .returned (.bool true) ∧ Below w.heap.size w w' := by
  have hc := Lib.hid (Blk.new w 33 #[.int .i64 x0, .int .i64 y0, .int .i64 z0, .int .i64 u0, .slice A0 n0 c0, .int .i64 x1, .int .i64 y1, .int .i64 z1, .int .i64 u1, .slice A1 n1 c1, .int .i64 x2, .int .i64 y2, .int .i64 z2, .int .i64 u2, .slice A2 n2 c2, .int .i64 mo, .bool cw, .int .i64 pr])
  have hB : Hid (Below w.heap.size w (w.alloc (.cells #[.int .i64 x0, .int .i64 y0, .int .i64 z0, .int .i64 u0, .slice A0 n0 c0, .int .i64 x1, .int .i64 y1, .int .i64 z1, .int .i64 u1, .slice A1 n1 c1, .int .i64 x2, .int .i64 y2, .int .i64 z2, .int .i64 u2, .slice A2 n2 c2, .int .i64 mo, .bool cw, .int .i64 pr] 33))) := Lib.hid (by go_grown)
  replace k0 := Lib.hid (k0.call hB.out)
  replace k1 := Lib.hid (k1.call hB.out)
  replace k2 := Lib.hid (k2.call hB.out)
  replace hn := Lib.hid hn
  replace hkp := Lib.hid hkp
  go_enter Try.func7, Try.ntmps7
  have cc := hc.out.cell
  go_wp2_with (refine wpList_load_sub rfl 25 _ rfl _ 0 rfl _ _ #[.int .i64 x0, .int .i64 y0, .int .i64 z0, .int .i64 u0, .slice A0 n0 c0, .int .i64 x1, .int .i64 y1, .int .i64 z1, .int .i64 u1, .slice A1 n1 c1, .int .i64 x2, .int .i64 y2, .int .i64 z2, .int .i64 u2, .slice A2 n2 c2] _ _ hc.out rfl Try.underlying25 rfl t3Info ?_)
  refine (setup_no x0 y0 z0 u0 x1 y1 z1 u1 x2 y2 z2 u2 n0 n1 n2 A0 A1 A2 c0 c1 c2 mo pr cw _ hkp.out).mono ?_
  rintro e W1 ⟨rfl, hb⟩
  clear cc
  replace hc := Lib.hid (hc.out.call hb)
  replace k0 := Lib.hid (k0.out.call hb)
  replace k1 := Lib.hid (k1.out.call hb)
  replace k2 := Lib.hid (k2.out.call hb)
  replace hB := Lib.hid (below_on hB.out hb)
  clear hb
  go_upto_region 2 with (refine wpList_store_row rfl 35 _ _ rfl W1.heap.size #[.int .i64 0, .int .i64 0, .int .i64 0, .int .i64 0, .slice none 0 0, .int .i64 0, .int .i64 0, .int .i64 0, .int .i64 0, .slice none 0 0, .int .i64 0, .int .i64 0, .int .i64 0, .int .i64 0, .slice none 0 0, .int .i64 0, .bool false] rfl rfl 35 _ (Blk.new W1 35 #[.int .i64 0, .int .i64 0, .int .i64 0, .int .i64 0, .slice none 0 0, .int .i64 0, .int .i64 0, .int .i64 0, .int .i64 0, .slice none 0 0, .int .i64 0, .int .i64 0, .int .i64 0, .int .i64 0, .slice none 0 0, .int .i64 0, .bool false]) ttInfo rfl (by kernel_rfl) ?_)
  have ht1 := Lib.hid (Blk.setRow (Blk.new W1 35 #[.int .i64 0, .int .i64 0, .int .i64 0, .int .i64 0, .slice none 0 0, .int .i64 0, .int .i64 0, .int .i64 0, .int .i64 0, .slice none 0 0, .int .i64 0, .int .i64 0, .int .i64 0, .int .i64 0, .slice none 0 0, .int .i64 0, .bool false]) #[.int .i64 0, .int .i64 0, .int .i64 0, .int .i64 0, .slice none 0 0, .int .i64 0, .int .i64 0, .int .i64 0, .int .i64 0, .slice none 0 0, .int .i64 0, .int .i64 0, .int .i64 0, .int .i64 0, .slice none 0 0, .int .i64 0, .bool false])
  replace hc := Lib.hid ((hc.out.alloc (.cells #[.int .i64 0, .int .i64 0, .int .i64 0, .int .i64 0, .slice none 0 0, .int .i64 0, .int .i64 0, .int .i64 0, .int .i64 0, .slice none 0 0, .int .i64 0, .int .i64 0, .int .i64 0, .int .i64 0, .slice none 0 0, .int .i64 0, .bool false] 35)).farRow (Nat.ne_of_lt hc.out.lt) #[.int .i64 0, .int .i64 0, .int .i64 0, .int .i64 0, .slice none 0 0, .int .i64 0, .int .i64 0, .int .i64 0, .int .i64 0, .slice none 0 0, .int .i64 0, .int .i64 0, .int .i64 0, .int .i64 0, .slice none 0 0, .int .i64 0, .bool false])
  replace k0 := Lib.hid (sl_made k0.out (.cells #[.int .i64 0, .int .i64 0, .int .i64 0, .int .i64 0, .slice none 0 0, .int .i64 0, .int .i64 0, .int .i64 0, .int .i64 0, .slice none 0 0, .int .i64 0, .int .i64 0, .int .i64 0, .int .i64 0, .slice none 0 0, .int .i64 0, .bool false] 35) #[.int .i64 0, .int .i64 0, .int .i64 0, .int .i64 0, .slice none 0 0, .int .i64 0, .int .i64 0, .int .i64 0, .int .i64 0, .slice none 0 0, .int .i64 0, .int .i64 0, .int .i64 0, .int .i64 0, .slice none 0 0, .int .i64 0, .bool false])
  replace k1 := Lib.hid (sl_made k1.out (.cells #[.int .i64 0, .int .i64 0, .int .i64 0, .int .i64 0, .slice none 0 0, .int .i64 0, .int .i64 0, .int .i64 0, .int .i64 0, .slice none 0 0, .int .i64 0, .int .i64 0, .int .i64 0, .int .i64 0, .slice none 0 0, .int .i64 0, .bool false] 35) #[.int .i64 0, .int .i64 0, .int .i64 0, .int .i64 0, .slice none 0 0, .int .i64 0, .int .i64 0, .int .i64 0, .int .i64 0, .slice none 0 0, .int .i64 0, .int .i64 0, .int .i64 0, .int .i64 0, .slice none 0 0, .int .i64 0, .bool false])
  replace k2 := Lib.hid (sl_made k2.out (.cells #[.int .i64 0, .int .i64 0, .int .i64 0, .int .i64 0, .slice none 0 0, .int .i64 0, .int .i64 0, .int .i64 0, .int .i64 0, .slice none 0 0, .int .i64 0, .int .i64 0, .int .i64 0, .int .i64 0, .slice none 0 0, .int .i64 0, .bool false] 35) #[.int .i64 0, .int .i64 0, .int .i64 0, .int .i64 0, .slice none 0 0, .int .i64 0, .int .i64 0, .int .i64 0, .int .i64 0, .slice none 0 0, .int .i64 0, .int .i64 0, .int .i64 0, .int .i64 0, .slice none 0 0, .int .i64 0, .bool false])
  replace hB := Lib.hid (below_setRow (hB.out.alloc hB.out.size (.cells #[.int .i64 0, .int .i64 0, .int .i64 0, .int .i64 0, .slice none 0 0, .int .i64 0, .int .i64 0, .int .i64 0, .int .i64 0, .slice none 0 0, .int .i64 0, .int .i64 0, .int .i64 0, .int .i64 0, .slice none 0 0, .int .i64 0, .bool false] 35)) hB.out.size #[.int .i64 0, .int .i64 0, .int .i64 0, .int .i64 0, .slice none 0 0, .int .i64 0, .int .i64 0, .int .i64 0, .int .i64 0, .slice none 0 0, .int .i64 0, .int .i64 0, .int .i64 0, .int .i64 0, .slice none 0 0, .int .i64 0, .bool false])
  generalize (W1.alloc (.cells #[.int .i64 0, .int .i64 0, .int .i64 0, .int .i64 0, .slice none 0 0, .int .i64 0, .int .i64 0, .int .i64 0, .int .i64 0, .slice none 0 0, .int .i64 0, .int .i64 0, .int .i64 0, .int .i64 0, .slice none 0 0, .int .i64 0, .bool false] 35)).setRow W1.heap.size #[.int .i64 0, .int .i64 0, .int .i64 0, .int .i64 0, .slice none 0 0, .int .i64 0, .int .i64 0, .int .i64 0, .int .i64 0, .slice none 0 0, .int .i64 0, .int .i64 0, .int .i64 0, .int .i64 0, .slice none 0 0, .int .i64 0, .bool false] = X1 at *
  have cc := hc.out.cell
  go_wp2_with (refine wpList_load_sub rfl 25 _ rfl _ 0 rfl _ _ #[.int .i64 x0, .int .i64 y0, .int .i64 z0, .int .i64 u0, .slice A0 n0 c0, .int .i64 x1, .int .i64 y1, .int .i64 z1, .int .i64 u1, .slice A1 n1 c1, .int .i64 x2, .int .i64 y2, .int .i64 z2, .int .i64 u2, .slice A2 n2 c2] _ _ hc.out rfl Try.underlying25 rfl t3Info ?_)
  refine (rSetup_no x0 y0 z0 u0 x1 y1 z1 u1 x2 y2 z2 u2 n0 n1 n2 A0 A1 A2 c0 c1 c2 mo pr cw _ hkp.out).mono ?_
  rintro e W2 ⟨rfl, hb⟩
  clear cc
  replace hc := Lib.hid (hc.out.call hb)
  replace k0 := Lib.hid (k0.out.call hb)
  replace k1 := Lib.hid (k1.out.call hb)
  replace k2 := Lib.hid (k2.out.call hb)
  replace ht1 := Lib.hid (ht1.out.call hb)
  replace hB := Lib.hid (below_on hB.out hb)
  clear hb
  go_upto_region 3 with (refine wpList_store_row rfl 35 _ _ rfl W2.heap.size #[.int .i64 0, .int .i64 0, .int .i64 0, .int .i64 0, .slice none 0 0, .int .i64 0, .int .i64 0, .int .i64 0, .int .i64 0, .slice none 0 0, .int .i64 0, .int .i64 0, .int .i64 0, .int .i64 0, .slice none 0 0, .int .i64 0, .bool false] rfl rfl 35 _ (Blk.new W2 35 #[.int .i64 0, .int .i64 0, .int .i64 0, .int .i64 0, .slice none 0 0, .int .i64 0, .int .i64 0, .int .i64 0, .int .i64 0, .slice none 0 0, .int .i64 0, .int .i64 0, .int .i64 0, .int .i64 0, .slice none 0 0, .int .i64 0, .bool false]) ttInfo rfl (by kernel_rfl) ?_)
  have ht2 := Lib.hid (Blk.setRow (Blk.new W2 35 #[.int .i64 0, .int .i64 0, .int .i64 0, .int .i64 0, .slice none 0 0, .int .i64 0, .int .i64 0, .int .i64 0, .int .i64 0, .slice none 0 0, .int .i64 0, .int .i64 0, .int .i64 0, .int .i64 0, .slice none 0 0, .int .i64 0, .bool false]) #[.int .i64 0, .int .i64 0, .int .i64 0, .int .i64 0, .slice none 0 0, .int .i64 0, .int .i64 0, .int .i64 0, .int .i64 0, .slice none 0 0, .int .i64 0, .int .i64 0, .int .i64 0, .int .i64 0, .slice none 0 0, .int .i64 0, .bool false])
  replace hc := Lib.hid ((hc.out.alloc (.cells #[.int .i64 0, .int .i64 0, .int .i64 0, .int .i64 0, .slice none 0 0, .int .i64 0, .int .i64 0, .int .i64 0, .int .i64 0, .slice none 0 0, .int .i64 0, .int .i64 0, .int .i64 0, .int .i64 0, .slice none 0 0, .int .i64 0, .bool false] 35)).farRow (Nat.ne_of_lt hc.out.lt) #[.int .i64 0, .int .i64 0, .int .i64 0, .int .i64 0, .slice none 0 0, .int .i64 0, .int .i64 0, .int .i64 0, .int .i64 0, .slice none 0 0, .int .i64 0, .int .i64 0, .int .i64 0, .int .i64 0, .slice none 0 0, .int .i64 0, .bool false])
  replace k0 := Lib.hid (sl_made k0.out (.cells #[.int .i64 0, .int .i64 0, .int .i64 0, .int .i64 0, .slice none 0 0, .int .i64 0, .int .i64 0, .int .i64 0, .int .i64 0, .slice none 0 0, .int .i64 0, .int .i64 0, .int .i64 0, .int .i64 0, .slice none 0 0, .int .i64 0, .bool false] 35) #[.int .i64 0, .int .i64 0, .int .i64 0, .int .i64 0, .slice none 0 0, .int .i64 0, .int .i64 0, .int .i64 0, .int .i64 0, .slice none 0 0, .int .i64 0, .int .i64 0, .int .i64 0, .int .i64 0, .slice none 0 0, .int .i64 0, .bool false])
  replace k1 := Lib.hid (sl_made k1.out (.cells #[.int .i64 0, .int .i64 0, .int .i64 0, .int .i64 0, .slice none 0 0, .int .i64 0, .int .i64 0, .int .i64 0, .int .i64 0, .slice none 0 0, .int .i64 0, .int .i64 0, .int .i64 0, .int .i64 0, .slice none 0 0, .int .i64 0, .bool false] 35) #[.int .i64 0, .int .i64 0, .int .i64 0, .int .i64 0, .slice none 0 0, .int .i64 0, .int .i64 0, .int .i64 0, .int .i64 0, .slice none 0 0, .int .i64 0, .int .i64 0, .int .i64 0, .int .i64 0, .slice none 0 0, .int .i64 0, .bool false])
  replace k2 := Lib.hid (sl_made k2.out (.cells #[.int .i64 0, .int .i64 0, .int .i64 0, .int .i64 0, .slice none 0 0, .int .i64 0, .int .i64 0, .int .i64 0, .int .i64 0, .slice none 0 0, .int .i64 0, .int .i64 0, .int .i64 0, .int .i64 0, .slice none 0 0, .int .i64 0, .bool false] 35) #[.int .i64 0, .int .i64 0, .int .i64 0, .int .i64 0, .slice none 0 0, .int .i64 0, .int .i64 0, .int .i64 0, .int .i64 0, .slice none 0 0, .int .i64 0, .int .i64 0, .int .i64 0, .int .i64 0, .slice none 0 0, .int .i64 0, .bool false])
  replace ht1 := Lib.hid ((ht1.out.alloc (.cells #[.int .i64 0, .int .i64 0, .int .i64 0, .int .i64 0, .slice none 0 0, .int .i64 0, .int .i64 0, .int .i64 0, .int .i64 0, .slice none 0 0, .int .i64 0, .int .i64 0, .int .i64 0, .int .i64 0, .slice none 0 0, .int .i64 0, .bool false] 35)).farRow (Nat.ne_of_lt ht1.out.lt) #[.int .i64 0, .int .i64 0, .int .i64 0, .int .i64 0, .slice none 0 0, .int .i64 0, .int .i64 0, .int .i64 0, .int .i64 0, .slice none 0 0, .int .i64 0, .int .i64 0, .int .i64 0, .int .i64 0, .slice none 0 0, .int .i64 0, .bool false])
  replace hB := Lib.hid (below_setRow (hB.out.alloc hB.out.size (.cells #[.int .i64 0, .int .i64 0, .int .i64 0, .int .i64 0, .slice none 0 0, .int .i64 0, .int .i64 0, .int .i64 0, .int .i64 0, .slice none 0 0, .int .i64 0, .int .i64 0, .int .i64 0, .int .i64 0, .slice none 0 0, .int .i64 0, .bool false] 35)) hB.out.size #[.int .i64 0, .int .i64 0, .int .i64 0, .int .i64 0, .slice none 0 0, .int .i64 0, .int .i64 0, .int .i64 0, .int .i64 0, .slice none 0 0, .int .i64 0, .int .i64 0, .int .i64 0, .int .i64 0, .slice none 0 0, .int .i64 0, .bool false])
  generalize (W2.alloc (.cells #[.int .i64 0, .int .i64 0, .int .i64 0, .int .i64 0, .slice none 0 0, .int .i64 0, .int .i64 0, .int .i64 0, .int .i64 0, .slice none 0 0, .int .i64 0, .int .i64 0, .int .i64 0, .int .i64 0, .slice none 0 0, .int .i64 0, .bool false] 35)).setRow W2.heap.size #[.int .i64 0, .int .i64 0, .int .i64 0, .int .i64 0, .slice none 0 0, .int .i64 0, .int .i64 0, .int .i64 0, .int .i64 0, .slice none 0 0, .int .i64 0, .int .i64 0, .int .i64 0, .int .i64 0, .slice none 0 0, .int .i64 0, .bool false] = X2 at *
  have cc := hc.out.cell
  have lc := hc.out.lt
  have l1 := ht1.out.lt
  have l2 := ht2.out.lt
  go_wp2_with fail
  refine wp_region_noPanic ?_
  refine wp_region_held_drew (S := fun w' => ∃ n : Ext X2 (X2.heap.size), w' = n.val) (by kernel_rfl) ⟨⟨X2.drew, (Below.refl _ _).drew⟩, rfl⟩ (fun _ => ?_)
  refine held_quiets (fun _ _ _ _ _ h => h) (by kernel_rfl) ⟨⟨_, (((Below.refl _ _).drew).mono (Nat.le_refl _))⟩, rfl⟩ [0, 1, 2, 3, 4, 5] _ _ _ (by kernel_rfl) (by kernel_rfl) (of_decide_eq_true (by kernel_rfl)) ?_
  simp only [List.filterMap, List.getElem?_toArray, List.getElem?_cons_succ, List.getElem?_cons_zero]
  repeat (first | (go_big_quiet_want; refine quiet_load_row 35 _ rfl _ rfl _ _ _ ht1.out (by first | assumption | omega) Try.underlying35 rfl ttInfo ?_; simp only [Act.put, List.setIfInBounds_toArray, List.set_cons_zero, List.set_cons_succ]; go_big_quiet_on) | (go_big_quiet_want; refine quiet_load_row 35 _ rfl _ rfl _ _ _ ht2.out (by first | assumption | omega) Try.underlying35 rfl ttInfo ?_; simp only [Act.put, List.setIfInBounds_toArray, List.set_cons_zero, List.set_cons_succ]; go_big_quiet_on) | (go_big_quiet_want; refine quiet_load_sub 25 _ rfl _ 0 rfl _ _ #[.int .i64 x0, .int .i64 y0, .int .i64 z0, .int .i64 u0, .slice A0 n0 c0, .int .i64 x1, .int .i64 y1, .int .i64 z1, .int .i64 u1, .slice A1 n1 c1, .int .i64 x2, .int .i64 y2, .int .i64 z2, .int .i64 u2, .slice A2 n2 c2] _ hc.out (by first | assumption | omega) rfl Try.underlying25 rfl t3Info ?_; simp only [Act.put, List.setIfInBounds_toArray, List.set_cons_zero, List.set_cons_succ]; go_big_quiet_on) | go_big_quiet_step (fail))
  refine wpQuiet_nil ?_
  refine held_heavy (i := 6) (by kernel_rfl) rfl (by rfl) (of_decide_eq_true (by kernel_rfl)) (fun K hK => ?_)
  go_simp
  refine (sameTriangle_sl 0 0 0 0 0 0 0 0 0 0 0 0 0 0 0 (Nat.zero_le _) (Nat.zero_le _) (Nat.zero_le _) (fun _ => 0) (fun _ => 0) (fun _ => 0) none none none none none none 0 0 0 0 0 0 0 false _ (Sl.none _ _) (Sl.none _ _) (Sl.none _ _) (Sl.none _ _) (Sl.none _ _) (Sl.none _ _)).mono ?_
  rintro e U1 ⟨rfl, hv1⟩
  have hbU1 : Below X2.heap.size X2 U1 := (((Below.refl _ _).drew).trans (hv1.mono (Nat.le_refl _)))
  replace k0 := Lib.hid (k0.out.drew.call hv1)
  replace k1 := Lib.hid (k1.out.drew.call hv1)
  replace k2 := Lib.hid (k2.out.drew.call hv1)
  refine hK _ _ ⟨⟨U1, (hbU1.mono (Nat.le_refl _))⟩, rfl⟩ ?_
  clear hK K
  try simp only [Act.put, List.setIfInBounds_toArray, List.set_cons_zero, List.set_cons_succ]
  refine held_quiets (fun _ _ _ _ _ h => h) (by kernel_rfl) ⟨⟨_, (hbU1.mono (Nat.le_refl _))⟩, rfl⟩ [7, 8, 9, 10, 12, 13] _ _ _ (by kernel_rfl) (by kernel_rfl) (of_decide_eq_true (by kernel_rfl)) ?_
  simp only [List.filterMap, List.getElem?_toArray, List.getElem?_cons_succ, List.getElem?_cons_zero]
  repeat (first | (go_big_quiet_want; refine quiet_load_row 35 _ rfl _ rfl _ _ _ ht1.out (by first | assumption | omega) Try.underlying35 rfl ttInfo ?_; simp only [Act.put, List.setIfInBounds_toArray, List.set_cons_zero, List.set_cons_succ]; go_big_quiet_on) | (go_big_quiet_want; refine quiet_load_row 35 _ rfl _ rfl _ _ _ ht2.out (by first | assumption | omega) Try.underlying35 rfl ttInfo ?_; simp only [Act.put, List.setIfInBounds_toArray, List.set_cons_zero, List.set_cons_succ]; go_big_quiet_on) | (go_big_quiet_want; refine quiet_load_sub 25 _ rfl _ 0 rfl _ _ #[.int .i64 x0, .int .i64 y0, .int .i64 z0, .int .i64 u0, .slice A0 n0 c0, .int .i64 x1, .int .i64 y1, .int .i64 z1, .int .i64 u1, .slice A1 n1 c1, .int .i64 x2, .int .i64 y2, .int .i64 z2, .int .i64 u2, .slice A2 n2 c2] _ hc.out (by first | assumption | omega) rfl Try.underlying25 rfl t3Info ?_; simp only [Act.put, List.setIfInBounds_toArray, List.set_cons_zero, List.set_cons_succ]; go_big_quiet_on) | go_big_quiet_step (fail))
  refine wpQuiet_nil ?_
  refine held_heavy (i := 11) (by kernel_rfl) rfl (by rfl) (of_decide_eq_true (by kernel_rfl)) (fun K hK => ?_)
  go_simp
  refine (orient_swap x0 y0 z0 u0 x1 y1 z1 u1 x2 y2 z2 u2 n0 n1 n2 h0 h1 h2 f0 f1 f2 A0 A1 A2 c0 c1 c2 _ k0.out k1.out k2.out hn.out).mono ?_
  rintro e U2 ⟨hv2, P0, P1, P2, p0, p1, p2, rfl, q0, q1, q2, -, -, -⟩
  have hbU2 : Below X2.heap.size X2 U2 := (below_on hbU1 hv2)
  replace k0 := Lib.hid (k0.out.call hv2)
  replace k1 := Lib.hid (k1.out.call hv2)
  replace k2 := Lib.hid (k2.out.call hv2)
  replace q0 := Lib.hid q0
  replace q1 := Lib.hid q1
  replace q2 := Lib.hid q2
  refine hK _ _ ⟨⟨U2, (hbU2.mono (Nat.le_refl _))⟩, rfl⟩ ?_
  clear hK K
  try simp only [Act.put, List.setIfInBounds_toArray, List.set_cons_zero, List.set_cons_succ]
  refine held_heavy (i := 14) (by kernel_rfl) rfl (by rfl) (of_decide_eq_true (by kernel_rfl)) (fun K hK => ?_)
  go_simp
  refine (rOrient_swap x0 y0 z0 u0 x1 y1 z1 u1 x2 y2 z2 u2 n0 n1 n2 h0 h1 h2 f0 f1 f2 A0 A1 A2 c0 c1 c2 _ k0.out k1.out k2.out hn.out).mono ?_
  rintro e U3 ⟨hv3, R0, R1, R2, r0, r1, r2, rfl, j0, j1, j2, -, -, -⟩
  have hbU3 : Below X2.heap.size X2 U3 := (below_on hbU2 hv3)
  replace q0 := Lib.hid (q0.out.call hv3)
  replace q1 := Lib.hid (q1.out.call hv3)
  replace q2 := Lib.hid (q2.out.call hv3)
  replace j0 := Lib.hid j0
  replace j1 := Lib.hid j1
  replace j2 := Lib.hid j2
  refine hK _ _ ⟨⟨U3, (hbU3.mono (Nat.le_refl _))⟩, rfl⟩ ?_
  clear hK K
  try simp only [Act.put, List.setIfInBounds_toArray, List.set_cons_zero, List.set_cons_succ]
  refine held_heavy (i := 15) (by kernel_rfl) rfl (by rfl) (of_decide_eq_true (by kernel_rfl)) (fun K hK => ?_)
  go_simp
  refine (sameVertices_sl x0 y0 z0 u0 x2 y2 z2 u2 x1 y1 z1 u1 n0 n2 n1 h0 h2 h1 f0 f2 f1 P0 P2 P1 R0 R2 R1 p0 p2 p1 r0 r2 r1 _ q0.out q2.out q1.out j0.out j2.out j1.out).mono ?_
  rintro e U4 ⟨rfl, hv4⟩
  have hbU4 : Below X2.heap.size X2 U4 := (below_on hbU3 hv4)
  refine hK _ _ ⟨⟨U4, (hbU4.mono (Nat.le_refl _))⟩, rfl⟩ ?_
  clear hK K
  try simp only [Act.put, List.setIfInBounds_toArray, List.set_cons_zero, List.set_cons_succ]
  refine held_quiets (fun _ _ _ _ _ h => h) (by kernel_rfl) ⟨⟨_, (hbU4.mono (Nat.le_refl _))⟩, rfl⟩ [16, 17] _ _ _ (by kernel_rfl) (by kernel_rfl) (of_decide_eq_true (by kernel_rfl)) ?_
  simp only [List.filterMap, List.getElem?_toArray, List.getElem?_cons_succ, List.getElem?_cons_zero]
  repeat (first | (go_big_quiet_want; refine quiet_load_row 35 _ rfl _ rfl _ _ _ ht1.out (by first | assumption | omega) Try.underlying35 rfl ttInfo ?_; simp only [Act.put, List.setIfInBounds_toArray, List.set_cons_zero, List.set_cons_succ]; go_big_quiet_on) | (go_big_quiet_want; refine quiet_load_row 35 _ rfl _ rfl _ _ _ ht2.out (by first | assumption | omega) Try.underlying35 rfl ttInfo ?_; simp only [Act.put, List.setIfInBounds_toArray, List.set_cons_zero, List.set_cons_succ]; go_big_quiet_on) | (go_big_quiet_want; refine quiet_load_sub 25 _ rfl _ 0 rfl _ _ #[.int .i64 x0, .int .i64 y0, .int .i64 z0, .int .i64 u0, .slice A0 n0 c0, .int .i64 x1, .int .i64 y1, .int .i64 z1, .int .i64 u1, .slice A1 n1 c1, .int .i64 x2, .int .i64 y2, .int .i64 z2, .int .i64 u2, .slice A2 n2 c2] _ hc.out (by first | assumption | omega) rfl Try.underlying25 rfl t3Info ?_; simp only [Act.put, List.setIfInBounds_toArray, List.set_cons_zero, List.set_cons_succ]; go_big_quiet_on) | go_big_quiet_step (fail))
  refine wpQuiet_nil ?_
  refine held_heavy (i := 18) (by kernel_rfl) rfl (by rfl) (of_decide_eq_true (by kernel_rfl)) (fun K hK => ?_)
  go_simp
  refine (example_true _).mono ?_
  rintro e U5 ⟨rfl, hv5⟩
  have hbU5 : Below X2.heap.size X2 U5 := (below_on hbU4 hv5)
  refine hK _ _ ⟨⟨U5, (hbU5.mono (Nat.le_refl _))⟩, rfl⟩ ?_
  clear hK K
  try simp only [Act.put, List.setIfInBounds_toArray, List.set_cons_zero, List.set_cons_succ]
  refine held_quiets (fun _ _ _ _ _ h => h) (by kernel_rfl) ⟨⟨_, (hbU5.mono (Nat.le_refl _))⟩, rfl⟩ [19, 20] _ _ _ (by kernel_rfl) (by kernel_rfl) (of_decide_eq_true (by kernel_rfl)) ?_
  simp only [List.filterMap, List.getElem?_toArray, List.getElem?_cons_succ, List.getElem?_cons_zero]
  repeat (first | (go_big_quiet_want; refine quiet_load_row 35 _ rfl _ rfl _ _ _ ht1.out (by first | assumption | omega) Try.underlying35 rfl ttInfo ?_; simp only [Act.put, List.setIfInBounds_toArray, List.set_cons_zero, List.set_cons_succ]; go_big_quiet_on) | (go_big_quiet_want; refine quiet_load_row 35 _ rfl _ rfl _ _ _ ht2.out (by first | assumption | omega) Try.underlying35 rfl ttInfo ?_; simp only [Act.put, List.setIfInBounds_toArray, List.set_cons_zero, List.set_cons_succ]; go_big_quiet_on) | (go_big_quiet_want; refine quiet_load_sub 25 _ rfl _ 0 rfl _ _ #[.int .i64 x0, .int .i64 y0, .int .i64 z0, .int .i64 u0, .slice A0 n0 c0, .int .i64 x1, .int .i64 y1, .int .i64 z1, .int .i64 u1, .slice A1 n1 c1, .int .i64 x2, .int .i64 y2, .int .i64 z2, .int .i64 u2, .slice A2 n2 c2] _ hc.out (by first | assumption | omega) rfl Try.underlying25 rfl t3Info ?_; simp only [Act.put, List.setIfInBounds_toArray, List.set_cons_zero, List.set_cons_succ]; go_big_quiet_on) | go_big_quiet_step (fail))
  refine wpQuiet_nil ?_
  refine wpAnyH_done (by kernel_rfl) ?_ _
  refine NoPanic.normal ?_
  replace hB := Lib.hid (below_on hB.out hbU5)
  clear hbU1 hbU2 hbU3 hbU4 hbU5
  go_wp2
  go_ret
  exact ⟨rfl, hB.out⟩
set_option maxRecDepth 100000 in
set_option maxHeartbeats 16000000 in
theorem ori_yes_keep (x0 y0 z0 u0 x1 y1 z1 u1 x2 y2 z2 u2 : Int) (n0 n1 n2 : Nat) (h0 : n0 ≤ 17592186043904) (h1 : n1 ≤ 17592186043904) (h2 : n2 ≤ 17592186043904) (f0 f1 f2 : Nat → Int) (A0 A1 A2 : Option Addr) (c0 c1 c2 : Nat) (mo pr : Int) (cw : Bool) (w : World) (k0 : Sl w A0 n0 c0 f0) (k1 : Sl w A1 n1 c1 f1) (k2 : Sl w A2 n2 c2 f2) (hn : 0 ≤ areaI x0 y0 x1 y1 x2 y2) (hkp : keepB (areaI x0 y0 x1 y1 x2 y2) mo cw = true) :
    Calls Try.prog 7 #[.agg #[.int .i64 x0, .int .i64 y0, .int .i64 z0, .int .i64 u0, .slice A0 n0 c0, .int .i64 x1, .int .i64 y1, .int .i64 z1, .int .i64 u1, .slice A1 n1 c1, .int .i64 x2, .int .i64 y2, .int .i64 z2, .int .i64 u2, .slice A2 n2 c2, .int .i64 mo, .bool cw, .int .i64 pr]] w fun e w' => e = .returned (.bool true) ∧ Below w.heap.size w w' := by
  have hc := Lib.hid (Blk.new w 33 #[.int .i64 x0, .int .i64 y0, .int .i64 z0, .int .i64 u0, .slice A0 n0 c0, .int .i64 x1, .int .i64 y1, .int .i64 z1, .int .i64 u1, .slice A1 n1 c1, .int .i64 x2, .int .i64 y2, .int .i64 z2, .int .i64 u2, .slice A2 n2 c2, .int .i64 mo, .bool cw, .int .i64 pr])
  have hB : Hid (Below w.heap.size w (w.alloc (.cells #[.int .i64 x0, .int .i64 y0, .int .i64 z0, .int .i64 u0, .slice A0 n0 c0, .int .i64 x1, .int .i64 y1, .int .i64 z1, .int .i64 u1, .slice A1 n1 c1, .int .i64 x2, .int .i64 y2, .int .i64 z2, .int .i64 u2, .slice A2 n2 c2, .int .i64 mo, .bool cw, .int .i64 pr] 33))) := Lib.hid (by go_grown)
  replace k0 := Lib.hid (k0.call hB.out)
  replace k1 := Lib.hid (k1.call hB.out)
  replace k2 := Lib.hid (k2.call hB.out)
  replace hn := Lib.hid hn
  replace hkp := Lib.hid hkp
  go_enter Try.func7, Try.ntmps7
  have cc := hc.out.cell
  go_wp2_with (refine wpList_load_sub rfl 25 _ rfl _ 0 rfl _ _ #[.int .i64 x0, .int .i64 y0, .int .i64 z0, .int .i64 u0, .slice A0 n0 c0, .int .i64 x1, .int .i64 y1, .int .i64 z1, .int .i64 u1, .slice A1 n1 c1, .int .i64 x2, .int .i64 y2, .int .i64 z2, .int .i64 u2, .slice A2 n2 c2] _ _ hc.out rfl Try.underlying25 rfl t3Info ?_)
  refine (setup_keep x0 y0 z0 u0 x1 y1 z1 u1 x2 y2 z2 u2 n0 n1 n2 h0 h1 h2 f0 f1 f2 A0 A1 A2 c0 c1 c2 mo pr cw _ k0.out k1.out k2.out hn.out hkp.out).mono ?_
  rintro e W1 ⟨hb, B0, B1, B2, d0, d1, d2, rfl, s0, s1, s2⟩
  obtain ⟨fr, hfr⟩ : ∃ b, frontB (areaI x0 y0 x1 y1 x2 y2) cw = b := ⟨_, rfl⟩
  rw [hfr]
  replace hfr := Lib.hid hfr
  clear cc
  replace hc := Lib.hid (hc.out.call hb)
  replace k0 := Lib.hid (k0.out.call hb)
  replace k1 := Lib.hid (k1.out.call hb)
  replace k2 := Lib.hid (k2.out.call hb)
  replace hB := Lib.hid (below_on hB.out hb)
  clear hb
  go_upto_region 2 with (refine wpList_store_row rfl 35 _ _ rfl W1.heap.size #[.int .i64 x0, .int .i64 y0, .int .i64 z0, .int .i64 u0, .slice B0 n0 d0, .int .i64 x1, .int .i64 y1, .int .i64 z1, .int .i64 u1, .slice B1 n1 d1, .int .i64 x2, .int .i64 y2, .int .i64 z2, .int .i64 u2, .slice B2 n2 d2, .int .i64 pr, .bool fr] rfl rfl 35 _ (Blk.new W1 35 #[.int .i64 0, .int .i64 0, .int .i64 0, .int .i64 0, .slice none 0 0, .int .i64 0, .int .i64 0, .int .i64 0, .int .i64 0, .slice none 0 0, .int .i64 0, .int .i64 0, .int .i64 0, .int .i64 0, .slice none 0 0, .int .i64 0, .bool false]) ttInfo rfl (by kernel_rfl) ?_)
  have ht1 := Lib.hid (Blk.setRow (Blk.new W1 35 #[.int .i64 0, .int .i64 0, .int .i64 0, .int .i64 0, .slice none 0 0, .int .i64 0, .int .i64 0, .int .i64 0, .int .i64 0, .slice none 0 0, .int .i64 0, .int .i64 0, .int .i64 0, .int .i64 0, .slice none 0 0, .int .i64 0, .bool false]) #[.int .i64 x0, .int .i64 y0, .int .i64 z0, .int .i64 u0, .slice B0 n0 d0, .int .i64 x1, .int .i64 y1, .int .i64 z1, .int .i64 u1, .slice B1 n1 d1, .int .i64 x2, .int .i64 y2, .int .i64 z2, .int .i64 u2, .slice B2 n2 d2, .int .i64 pr, .bool fr])
  replace hc := Lib.hid ((hc.out.alloc (.cells #[.int .i64 0, .int .i64 0, .int .i64 0, .int .i64 0, .slice none 0 0, .int .i64 0, .int .i64 0, .int .i64 0, .int .i64 0, .slice none 0 0, .int .i64 0, .int .i64 0, .int .i64 0, .int .i64 0, .slice none 0 0, .int .i64 0, .bool false] 35)).farRow (Nat.ne_of_lt hc.out.lt) #[.int .i64 x0, .int .i64 y0, .int .i64 z0, .int .i64 u0, .slice B0 n0 d0, .int .i64 x1, .int .i64 y1, .int .i64 z1, .int .i64 u1, .slice B1 n1 d1, .int .i64 x2, .int .i64 y2, .int .i64 z2, .int .i64 u2, .slice B2 n2 d2, .int .i64 pr, .bool fr])
  replace k0 := Lib.hid (sl_made k0.out (.cells #[.int .i64 0, .int .i64 0, .int .i64 0, .int .i64 0, .slice none 0 0, .int .i64 0, .int .i64 0, .int .i64 0, .int .i64 0, .slice none 0 0, .int .i64 0, .int .i64 0, .int .i64 0, .int .i64 0, .slice none 0 0, .int .i64 0, .bool false] 35) #[.int .i64 x0, .int .i64 y0, .int .i64 z0, .int .i64 u0, .slice B0 n0 d0, .int .i64 x1, .int .i64 y1, .int .i64 z1, .int .i64 u1, .slice B1 n1 d1, .int .i64 x2, .int .i64 y2, .int .i64 z2, .int .i64 u2, .slice B2 n2 d2, .int .i64 pr, .bool fr])
  replace k1 := Lib.hid (sl_made k1.out (.cells #[.int .i64 0, .int .i64 0, .int .i64 0, .int .i64 0, .slice none 0 0, .int .i64 0, .int .i64 0, .int .i64 0, .int .i64 0, .slice none 0 0, .int .i64 0, .int .i64 0, .int .i64 0, .int .i64 0, .slice none 0 0, .int .i64 0, .bool false] 35) #[.int .i64 x0, .int .i64 y0, .int .i64 z0, .int .i64 u0, .slice B0 n0 d0, .int .i64 x1, .int .i64 y1, .int .i64 z1, .int .i64 u1, .slice B1 n1 d1, .int .i64 x2, .int .i64 y2, .int .i64 z2, .int .i64 u2, .slice B2 n2 d2, .int .i64 pr, .bool fr])
  replace k2 := Lib.hid (sl_made k2.out (.cells #[.int .i64 0, .int .i64 0, .int .i64 0, .int .i64 0, .slice none 0 0, .int .i64 0, .int .i64 0, .int .i64 0, .int .i64 0, .slice none 0 0, .int .i64 0, .int .i64 0, .int .i64 0, .int .i64 0, .slice none 0 0, .int .i64 0, .bool false] 35) #[.int .i64 x0, .int .i64 y0, .int .i64 z0, .int .i64 u0, .slice B0 n0 d0, .int .i64 x1, .int .i64 y1, .int .i64 z1, .int .i64 u1, .slice B1 n1 d1, .int .i64 x2, .int .i64 y2, .int .i64 z2, .int .i64 u2, .slice B2 n2 d2, .int .i64 pr, .bool fr])
  replace s0 := Lib.hid (sl_made s0 (.cells #[.int .i64 0, .int .i64 0, .int .i64 0, .int .i64 0, .slice none 0 0, .int .i64 0, .int .i64 0, .int .i64 0, .int .i64 0, .slice none 0 0, .int .i64 0, .int .i64 0, .int .i64 0, .int .i64 0, .slice none 0 0, .int .i64 0, .bool false] 35) #[.int .i64 x0, .int .i64 y0, .int .i64 z0, .int .i64 u0, .slice B0 n0 d0, .int .i64 x1, .int .i64 y1, .int .i64 z1, .int .i64 u1, .slice B1 n1 d1, .int .i64 x2, .int .i64 y2, .int .i64 z2, .int .i64 u2, .slice B2 n2 d2, .int .i64 pr, .bool fr])
  replace s1 := Lib.hid (sl_made s1 (.cells #[.int .i64 0, .int .i64 0, .int .i64 0, .int .i64 0, .slice none 0 0, .int .i64 0, .int .i64 0, .int .i64 0, .int .i64 0, .slice none 0 0, .int .i64 0, .int .i64 0, .int .i64 0, .int .i64 0, .slice none 0 0, .int .i64 0, .bool false] 35) #[.int .i64 x0, .int .i64 y0, .int .i64 z0, .int .i64 u0, .slice B0 n0 d0, .int .i64 x1, .int .i64 y1, .int .i64 z1, .int .i64 u1, .slice B1 n1 d1, .int .i64 x2, .int .i64 y2, .int .i64 z2, .int .i64 u2, .slice B2 n2 d2, .int .i64 pr, .bool fr])
  replace s2 := Lib.hid (sl_made s2 (.cells #[.int .i64 0, .int .i64 0, .int .i64 0, .int .i64 0, .slice none 0 0, .int .i64 0, .int .i64 0, .int .i64 0, .int .i64 0, .slice none 0 0, .int .i64 0, .int .i64 0, .int .i64 0, .int .i64 0, .slice none 0 0, .int .i64 0, .bool false] 35) #[.int .i64 x0, .int .i64 y0, .int .i64 z0, .int .i64 u0, .slice B0 n0 d0, .int .i64 x1, .int .i64 y1, .int .i64 z1, .int .i64 u1, .slice B1 n1 d1, .int .i64 x2, .int .i64 y2, .int .i64 z2, .int .i64 u2, .slice B2 n2 d2, .int .i64 pr, .bool fr])
  replace hB := Lib.hid (below_setRow (hB.out.alloc hB.out.size (.cells #[.int .i64 0, .int .i64 0, .int .i64 0, .int .i64 0, .slice none 0 0, .int .i64 0, .int .i64 0, .int .i64 0, .int .i64 0, .slice none 0 0, .int .i64 0, .int .i64 0, .int .i64 0, .int .i64 0, .slice none 0 0, .int .i64 0, .bool false] 35)) hB.out.size #[.int .i64 x0, .int .i64 y0, .int .i64 z0, .int .i64 u0, .slice B0 n0 d0, .int .i64 x1, .int .i64 y1, .int .i64 z1, .int .i64 u1, .slice B1 n1 d1, .int .i64 x2, .int .i64 y2, .int .i64 z2, .int .i64 u2, .slice B2 n2 d2, .int .i64 pr, .bool fr])
  generalize (W1.alloc (.cells #[.int .i64 0, .int .i64 0, .int .i64 0, .int .i64 0, .slice none 0 0, .int .i64 0, .int .i64 0, .int .i64 0, .int .i64 0, .slice none 0 0, .int .i64 0, .int .i64 0, .int .i64 0, .int .i64 0, .slice none 0 0, .int .i64 0, .bool false] 35)).setRow W1.heap.size #[.int .i64 x0, .int .i64 y0, .int .i64 z0, .int .i64 u0, .slice B0 n0 d0, .int .i64 x1, .int .i64 y1, .int .i64 z1, .int .i64 u1, .slice B1 n1 d1, .int .i64 x2, .int .i64 y2, .int .i64 z2, .int .i64 u2, .slice B2 n2 d2, .int .i64 pr, .bool fr] = X1 at *
  have cc := hc.out.cell
  go_wp2_with (refine wpList_load_sub rfl 25 _ rfl _ 0 rfl _ _ #[.int .i64 x0, .int .i64 y0, .int .i64 z0, .int .i64 u0, .slice A0 n0 c0, .int .i64 x1, .int .i64 y1, .int .i64 z1, .int .i64 u1, .slice A1 n1 c1, .int .i64 x2, .int .i64 y2, .int .i64 z2, .int .i64 u2, .slice A2 n2 c2] _ _ hc.out rfl Try.underlying25 rfl t3Info ?_)
  refine (rSetup_keep x0 y0 z0 u0 x1 y1 z1 u1 x2 y2 z2 u2 n0 n1 n2 h0 h1 h2 f0 f1 f2 A0 A1 A2 c0 c1 c2 mo pr cw _ k0.out k1.out k2.out hn.out hkp.out).mono ?_
  rintro e W2 ⟨hb, E0, E1, E2, e0, e1, e2, rfl, t0, t1, t2⟩
  rw [hfr]
  clear cc
  replace hc := Lib.hid (hc.out.call hb)
  replace k0 := Lib.hid (k0.out.call hb)
  replace k1 := Lib.hid (k1.out.call hb)
  replace k2 := Lib.hid (k2.out.call hb)
  replace ht1 := Lib.hid (ht1.out.call hb)
  replace s0 := Lib.hid (s0.out.call hb)
  replace s1 := Lib.hid (s1.out.call hb)
  replace s2 := Lib.hid (s2.out.call hb)
  replace hB := Lib.hid (below_on hB.out hb)
  clear hb
  go_upto_region 3 with (refine wpList_store_row rfl 35 _ _ rfl W2.heap.size #[.int .i64 x0, .int .i64 y0, .int .i64 z0, .int .i64 u0, .slice E0 n0 e0, .int .i64 x1, .int .i64 y1, .int .i64 z1, .int .i64 u1, .slice E1 n1 e1, .int .i64 x2, .int .i64 y2, .int .i64 z2, .int .i64 u2, .slice E2 n2 e2, .int .i64 pr, .bool fr] rfl rfl 35 _ (Blk.new W2 35 #[.int .i64 0, .int .i64 0, .int .i64 0, .int .i64 0, .slice none 0 0, .int .i64 0, .int .i64 0, .int .i64 0, .int .i64 0, .slice none 0 0, .int .i64 0, .int .i64 0, .int .i64 0, .int .i64 0, .slice none 0 0, .int .i64 0, .bool false]) ttInfo rfl (by kernel_rfl) ?_)
  have ht2 := Lib.hid (Blk.setRow (Blk.new W2 35 #[.int .i64 0, .int .i64 0, .int .i64 0, .int .i64 0, .slice none 0 0, .int .i64 0, .int .i64 0, .int .i64 0, .int .i64 0, .slice none 0 0, .int .i64 0, .int .i64 0, .int .i64 0, .int .i64 0, .slice none 0 0, .int .i64 0, .bool false]) #[.int .i64 x0, .int .i64 y0, .int .i64 z0, .int .i64 u0, .slice E0 n0 e0, .int .i64 x1, .int .i64 y1, .int .i64 z1, .int .i64 u1, .slice E1 n1 e1, .int .i64 x2, .int .i64 y2, .int .i64 z2, .int .i64 u2, .slice E2 n2 e2, .int .i64 pr, .bool fr])
  replace hc := Lib.hid ((hc.out.alloc (.cells #[.int .i64 0, .int .i64 0, .int .i64 0, .int .i64 0, .slice none 0 0, .int .i64 0, .int .i64 0, .int .i64 0, .int .i64 0, .slice none 0 0, .int .i64 0, .int .i64 0, .int .i64 0, .int .i64 0, .slice none 0 0, .int .i64 0, .bool false] 35)).farRow (Nat.ne_of_lt hc.out.lt) #[.int .i64 x0, .int .i64 y0, .int .i64 z0, .int .i64 u0, .slice E0 n0 e0, .int .i64 x1, .int .i64 y1, .int .i64 z1, .int .i64 u1, .slice E1 n1 e1, .int .i64 x2, .int .i64 y2, .int .i64 z2, .int .i64 u2, .slice E2 n2 e2, .int .i64 pr, .bool fr])
  replace k0 := Lib.hid (sl_made k0.out (.cells #[.int .i64 0, .int .i64 0, .int .i64 0, .int .i64 0, .slice none 0 0, .int .i64 0, .int .i64 0, .int .i64 0, .int .i64 0, .slice none 0 0, .int .i64 0, .int .i64 0, .int .i64 0, .int .i64 0, .slice none 0 0, .int .i64 0, .bool false] 35) #[.int .i64 x0, .int .i64 y0, .int .i64 z0, .int .i64 u0, .slice E0 n0 e0, .int .i64 x1, .int .i64 y1, .int .i64 z1, .int .i64 u1, .slice E1 n1 e1, .int .i64 x2, .int .i64 y2, .int .i64 z2, .int .i64 u2, .slice E2 n2 e2, .int .i64 pr, .bool fr])
  replace k1 := Lib.hid (sl_made k1.out (.cells #[.int .i64 0, .int .i64 0, .int .i64 0, .int .i64 0, .slice none 0 0, .int .i64 0, .int .i64 0, .int .i64 0, .int .i64 0, .slice none 0 0, .int .i64 0, .int .i64 0, .int .i64 0, .int .i64 0, .slice none 0 0, .int .i64 0, .bool false] 35) #[.int .i64 x0, .int .i64 y0, .int .i64 z0, .int .i64 u0, .slice E0 n0 e0, .int .i64 x1, .int .i64 y1, .int .i64 z1, .int .i64 u1, .slice E1 n1 e1, .int .i64 x2, .int .i64 y2, .int .i64 z2, .int .i64 u2, .slice E2 n2 e2, .int .i64 pr, .bool fr])
  replace k2 := Lib.hid (sl_made k2.out (.cells #[.int .i64 0, .int .i64 0, .int .i64 0, .int .i64 0, .slice none 0 0, .int .i64 0, .int .i64 0, .int .i64 0, .int .i64 0, .slice none 0 0, .int .i64 0, .int .i64 0, .int .i64 0, .int .i64 0, .slice none 0 0, .int .i64 0, .bool false] 35) #[.int .i64 x0, .int .i64 y0, .int .i64 z0, .int .i64 u0, .slice E0 n0 e0, .int .i64 x1, .int .i64 y1, .int .i64 z1, .int .i64 u1, .slice E1 n1 e1, .int .i64 x2, .int .i64 y2, .int .i64 z2, .int .i64 u2, .slice E2 n2 e2, .int .i64 pr, .bool fr])
  replace ht1 := Lib.hid ((ht1.out.alloc (.cells #[.int .i64 0, .int .i64 0, .int .i64 0, .int .i64 0, .slice none 0 0, .int .i64 0, .int .i64 0, .int .i64 0, .int .i64 0, .slice none 0 0, .int .i64 0, .int .i64 0, .int .i64 0, .int .i64 0, .slice none 0 0, .int .i64 0, .bool false] 35)).farRow (Nat.ne_of_lt ht1.out.lt) #[.int .i64 x0, .int .i64 y0, .int .i64 z0, .int .i64 u0, .slice E0 n0 e0, .int .i64 x1, .int .i64 y1, .int .i64 z1, .int .i64 u1, .slice E1 n1 e1, .int .i64 x2, .int .i64 y2, .int .i64 z2, .int .i64 u2, .slice E2 n2 e2, .int .i64 pr, .bool fr])
  replace s0 := Lib.hid (sl_made s0.out (.cells #[.int .i64 0, .int .i64 0, .int .i64 0, .int .i64 0, .slice none 0 0, .int .i64 0, .int .i64 0, .int .i64 0, .int .i64 0, .slice none 0 0, .int .i64 0, .int .i64 0, .int .i64 0, .int .i64 0, .slice none 0 0, .int .i64 0, .bool false] 35) #[.int .i64 x0, .int .i64 y0, .int .i64 z0, .int .i64 u0, .slice E0 n0 e0, .int .i64 x1, .int .i64 y1, .int .i64 z1, .int .i64 u1, .slice E1 n1 e1, .int .i64 x2, .int .i64 y2, .int .i64 z2, .int .i64 u2, .slice E2 n2 e2, .int .i64 pr, .bool fr])
  replace s1 := Lib.hid (sl_made s1.out (.cells #[.int .i64 0, .int .i64 0, .int .i64 0, .int .i64 0, .slice none 0 0, .int .i64 0, .int .i64 0, .int .i64 0, .int .i64 0, .slice none 0 0, .int .i64 0, .int .i64 0, .int .i64 0, .int .i64 0, .slice none 0 0, .int .i64 0, .bool false] 35) #[.int .i64 x0, .int .i64 y0, .int .i64 z0, .int .i64 u0, .slice E0 n0 e0, .int .i64 x1, .int .i64 y1, .int .i64 z1, .int .i64 u1, .slice E1 n1 e1, .int .i64 x2, .int .i64 y2, .int .i64 z2, .int .i64 u2, .slice E2 n2 e2, .int .i64 pr, .bool fr])
  replace s2 := Lib.hid (sl_made s2.out (.cells #[.int .i64 0, .int .i64 0, .int .i64 0, .int .i64 0, .slice none 0 0, .int .i64 0, .int .i64 0, .int .i64 0, .int .i64 0, .slice none 0 0, .int .i64 0, .int .i64 0, .int .i64 0, .int .i64 0, .slice none 0 0, .int .i64 0, .bool false] 35) #[.int .i64 x0, .int .i64 y0, .int .i64 z0, .int .i64 u0, .slice E0 n0 e0, .int .i64 x1, .int .i64 y1, .int .i64 z1, .int .i64 u1, .slice E1 n1 e1, .int .i64 x2, .int .i64 y2, .int .i64 z2, .int .i64 u2, .slice E2 n2 e2, .int .i64 pr, .bool fr])
  replace t0 := Lib.hid (sl_made t0 (.cells #[.int .i64 0, .int .i64 0, .int .i64 0, .int .i64 0, .slice none 0 0, .int .i64 0, .int .i64 0, .int .i64 0, .int .i64 0, .slice none 0 0, .int .i64 0, .int .i64 0, .int .i64 0, .int .i64 0, .slice none 0 0, .int .i64 0, .bool false] 35) #[.int .i64 x0, .int .i64 y0, .int .i64 z0, .int .i64 u0, .slice E0 n0 e0, .int .i64 x1, .int .i64 y1, .int .i64 z1, .int .i64 u1, .slice E1 n1 e1, .int .i64 x2, .int .i64 y2, .int .i64 z2, .int .i64 u2, .slice E2 n2 e2, .int .i64 pr, .bool fr])
  replace t1 := Lib.hid (sl_made t1 (.cells #[.int .i64 0, .int .i64 0, .int .i64 0, .int .i64 0, .slice none 0 0, .int .i64 0, .int .i64 0, .int .i64 0, .int .i64 0, .slice none 0 0, .int .i64 0, .int .i64 0, .int .i64 0, .int .i64 0, .slice none 0 0, .int .i64 0, .bool false] 35) #[.int .i64 x0, .int .i64 y0, .int .i64 z0, .int .i64 u0, .slice E0 n0 e0, .int .i64 x1, .int .i64 y1, .int .i64 z1, .int .i64 u1, .slice E1 n1 e1, .int .i64 x2, .int .i64 y2, .int .i64 z2, .int .i64 u2, .slice E2 n2 e2, .int .i64 pr, .bool fr])
  replace t2 := Lib.hid (sl_made t2 (.cells #[.int .i64 0, .int .i64 0, .int .i64 0, .int .i64 0, .slice none 0 0, .int .i64 0, .int .i64 0, .int .i64 0, .int .i64 0, .slice none 0 0, .int .i64 0, .int .i64 0, .int .i64 0, .int .i64 0, .slice none 0 0, .int .i64 0, .bool false] 35) #[.int .i64 x0, .int .i64 y0, .int .i64 z0, .int .i64 u0, .slice E0 n0 e0, .int .i64 x1, .int .i64 y1, .int .i64 z1, .int .i64 u1, .slice E1 n1 e1, .int .i64 x2, .int .i64 y2, .int .i64 z2, .int .i64 u2, .slice E2 n2 e2, .int .i64 pr, .bool fr])
  replace hB := Lib.hid (below_setRow (hB.out.alloc hB.out.size (.cells #[.int .i64 0, .int .i64 0, .int .i64 0, .int .i64 0, .slice none 0 0, .int .i64 0, .int .i64 0, .int .i64 0, .int .i64 0, .slice none 0 0, .int .i64 0, .int .i64 0, .int .i64 0, .int .i64 0, .slice none 0 0, .int .i64 0, .bool false] 35)) hB.out.size #[.int .i64 x0, .int .i64 y0, .int .i64 z0, .int .i64 u0, .slice E0 n0 e0, .int .i64 x1, .int .i64 y1, .int .i64 z1, .int .i64 u1, .slice E1 n1 e1, .int .i64 x2, .int .i64 y2, .int .i64 z2, .int .i64 u2, .slice E2 n2 e2, .int .i64 pr, .bool fr])
  generalize (W2.alloc (.cells #[.int .i64 0, .int .i64 0, .int .i64 0, .int .i64 0, .slice none 0 0, .int .i64 0, .int .i64 0, .int .i64 0, .int .i64 0, .slice none 0 0, .int .i64 0, .int .i64 0, .int .i64 0, .int .i64 0, .slice none 0 0, .int .i64 0, .bool false] 35)).setRow W2.heap.size #[.int .i64 x0, .int .i64 y0, .int .i64 z0, .int .i64 u0, .slice E0 n0 e0, .int .i64 x1, .int .i64 y1, .int .i64 z1, .int .i64 u1, .slice E1 n1 e1, .int .i64 x2, .int .i64 y2, .int .i64 z2, .int .i64 u2, .slice E2 n2 e2, .int .i64 pr, .bool fr] = X2 at *
  have cc := hc.out.cell
  have lc := hc.out.lt
  have l1 := ht1.out.lt
  have l2 := ht2.out.lt
  go_wp2_with fail
  refine wp_region_noPanic ?_
  refine wp_region_held_drew (S := fun w' => ∃ n : Ext X2 (X2.heap.size), w' = n.val) (by kernel_rfl) ⟨⟨X2.drew, (Below.refl _ _).drew⟩, rfl⟩ (fun _ => ?_)
  refine held_quiets (fun _ _ _ _ _ h => h) (by kernel_rfl) ⟨⟨_, (((Below.refl _ _).drew).mono (Nat.le_refl _))⟩, rfl⟩ [0, 1, 2, 3, 4, 5] _ _ _ (by kernel_rfl) (by kernel_rfl) (of_decide_eq_true (by kernel_rfl)) ?_
  simp only [List.filterMap, List.getElem?_toArray, List.getElem?_cons_succ, List.getElem?_cons_zero]
  repeat (first | (go_big_quiet_want; refine quiet_load_row 35 _ rfl _ rfl _ _ _ ht1.out (by first | assumption | omega) Try.underlying35 rfl ttInfo ?_; simp only [Act.put, List.setIfInBounds_toArray, List.set_cons_zero, List.set_cons_succ]; go_big_quiet_on) | (go_big_quiet_want; refine quiet_load_row 35 _ rfl _ rfl _ _ _ ht2.out (by first | assumption | omega) Try.underlying35 rfl ttInfo ?_; simp only [Act.put, List.setIfInBounds_toArray, List.set_cons_zero, List.set_cons_succ]; go_big_quiet_on) | (go_big_quiet_want; refine quiet_load_sub 25 _ rfl _ 0 rfl _ _ #[.int .i64 x0, .int .i64 y0, .int .i64 z0, .int .i64 u0, .slice A0 n0 c0, .int .i64 x1, .int .i64 y1, .int .i64 z1, .int .i64 u1, .slice A1 n1 c1, .int .i64 x2, .int .i64 y2, .int .i64 z2, .int .i64 u2, .slice A2 n2 c2] _ hc.out (by first | assumption | omega) rfl Try.underlying25 rfl t3Info ?_; simp only [Act.put, List.setIfInBounds_toArray, List.set_cons_zero, List.set_cons_succ]; go_big_quiet_on) | go_big_quiet_step (fail))
  refine wpQuiet_nil ?_
  refine held_heavy (i := 6) (by kernel_rfl) rfl (by rfl) (of_decide_eq_true (by kernel_rfl)) (fun K hK => ?_)
  go_simp
  refine (sameTriangle_sl x0 y0 z0 u0 x1 y1 z1 u1 x2 y2 z2 u2 n0 n1 n2 h0 h1 h2 f0 f1 f2 B0 B1 B2 E0 E1 E2 d0 d1 d2 e0 e1 e2 pr fr _ s0.out.drew s1.out.drew s2.out.drew t0.out.drew t1.out.drew t2.out.drew).mono ?_
  rintro e U1 ⟨rfl, hv1⟩
  have hbU1 : Below X2.heap.size X2 U1 := (((Below.refl _ _).drew).trans (hv1.mono (Nat.le_refl _)))
  replace k0 := Lib.hid (k0.out.drew.call hv1)
  replace k1 := Lib.hid (k1.out.drew.call hv1)
  replace k2 := Lib.hid (k2.out.drew.call hv1)
  clear s0 t0 s1 t1 s2 t2
  refine hK _ _ ⟨⟨U1, (hbU1.mono (Nat.le_refl _))⟩, rfl⟩ ?_
  clear hK K
  try simp only [Act.put, List.setIfInBounds_toArray, List.set_cons_zero, List.set_cons_succ]
  refine held_quiets (fun _ _ _ _ _ h => h) (by kernel_rfl) ⟨⟨_, (hbU1.mono (Nat.le_refl _))⟩, rfl⟩ [7, 8, 9, 10, 12, 13] _ _ _ (by kernel_rfl) (by kernel_rfl) (of_decide_eq_true (by kernel_rfl)) ?_
  simp only [List.filterMap, List.getElem?_toArray, List.getElem?_cons_succ, List.getElem?_cons_zero]
  repeat (first | (go_big_quiet_want; refine quiet_load_row 35 _ rfl _ rfl _ _ _ ht1.out (by first | assumption | omega) Try.underlying35 rfl ttInfo ?_; simp only [Act.put, List.setIfInBounds_toArray, List.set_cons_zero, List.set_cons_succ]; go_big_quiet_on) | (go_big_quiet_want; refine quiet_load_row 35 _ rfl _ rfl _ _ _ ht2.out (by first | assumption | omega) Try.underlying35 rfl ttInfo ?_; simp only [Act.put, List.setIfInBounds_toArray, List.set_cons_zero, List.set_cons_succ]; go_big_quiet_on) | (go_big_quiet_want; refine quiet_load_sub 25 _ rfl _ 0 rfl _ _ #[.int .i64 x0, .int .i64 y0, .int .i64 z0, .int .i64 u0, .slice A0 n0 c0, .int .i64 x1, .int .i64 y1, .int .i64 z1, .int .i64 u1, .slice A1 n1 c1, .int .i64 x2, .int .i64 y2, .int .i64 z2, .int .i64 u2, .slice A2 n2 c2] _ hc.out (by first | assumption | omega) rfl Try.underlying25 rfl t3Info ?_; simp only [Act.put, List.setIfInBounds_toArray, List.set_cons_zero, List.set_cons_succ]; go_big_quiet_on) | go_big_quiet_step (fail))
  refine wpQuiet_nil ?_
  refine held_heavy (i := 11) (by kernel_rfl) rfl (by rfl) (of_decide_eq_true (by kernel_rfl)) (fun K hK => ?_)
  go_simp
  refine (orient_keep x0 y0 z0 u0 x1 y1 z1 u1 x2 y2 z2 u2 n0 n1 n2 h0 h1 h2 f0 f1 f2 A0 A1 A2 c0 c1 c2 _ k0.out k1.out k2.out hn.out).mono ?_
  rintro e U2 ⟨hv2, P0, P1, P2, p0, p1, p2, rfl, q0, q1, q2, -, -, -⟩
  have hbU2 : Below X2.heap.size X2 U2 := (below_on hbU1 hv2)
  replace k0 := Lib.hid (k0.out.call hv2)
  replace k1 := Lib.hid (k1.out.call hv2)
  replace k2 := Lib.hid (k2.out.call hv2)
  replace q0 := Lib.hid q0
  replace q1 := Lib.hid q1
  replace q2 := Lib.hid q2
  refine hK _ _ ⟨⟨U2, (hbU2.mono (Nat.le_refl _))⟩, rfl⟩ ?_
  clear hK K
  try simp only [Act.put, List.setIfInBounds_toArray, List.set_cons_zero, List.set_cons_succ]
  refine held_heavy (i := 14) (by kernel_rfl) rfl (by rfl) (of_decide_eq_true (by kernel_rfl)) (fun K hK => ?_)
  go_simp
  refine (rOrient_keep x0 y0 z0 u0 x1 y1 z1 u1 x2 y2 z2 u2 n0 n1 n2 h0 h1 h2 f0 f1 f2 A0 A1 A2 c0 c1 c2 _ k0.out k1.out k2.out hn.out).mono ?_
  rintro e U3 ⟨hv3, R0, R1, R2, r0, r1, r2, rfl, j0, j1, j2, -, -, -⟩
  have hbU3 : Below X2.heap.size X2 U3 := (below_on hbU2 hv3)
  replace q0 := Lib.hid (q0.out.call hv3)
  replace q1 := Lib.hid (q1.out.call hv3)
  replace q2 := Lib.hid (q2.out.call hv3)
  replace j0 := Lib.hid j0
  replace j1 := Lib.hid j1
  replace j2 := Lib.hid j2
  refine hK _ _ ⟨⟨U3, (hbU3.mono (Nat.le_refl _))⟩, rfl⟩ ?_
  clear hK K
  try simp only [Act.put, List.setIfInBounds_toArray, List.set_cons_zero, List.set_cons_succ]
  refine held_heavy (i := 15) (by kernel_rfl) rfl (by rfl) (of_decide_eq_true (by kernel_rfl)) (fun K hK => ?_)
  go_simp
  refine (sameVertices_sl x0 y0 z0 u0 x1 y1 z1 u1 x2 y2 z2 u2 n0 n1 n2 h0 h1 h2 f0 f1 f2 P0 P1 P2 R0 R1 R2 p0 p1 p2 r0 r1 r2 _ q0.out q1.out q2.out j0.out j1.out j2.out).mono ?_
  rintro e U4 ⟨rfl, hv4⟩
  have hbU4 : Below X2.heap.size X2 U4 := (below_on hbU3 hv4)
  refine hK _ _ ⟨⟨U4, (hbU4.mono (Nat.le_refl _))⟩, rfl⟩ ?_
  clear hK K
  try simp only [Act.put, List.setIfInBounds_toArray, List.set_cons_zero, List.set_cons_succ]
  refine held_quiets (fun _ _ _ _ _ h => h) (by kernel_rfl) ⟨⟨_, (hbU4.mono (Nat.le_refl _))⟩, rfl⟩ [16, 17] _ _ _ (by kernel_rfl) (by kernel_rfl) (of_decide_eq_true (by kernel_rfl)) ?_
  simp only [List.filterMap, List.getElem?_toArray, List.getElem?_cons_succ, List.getElem?_cons_zero]
  repeat (first | (go_big_quiet_want; refine quiet_load_row 35 _ rfl _ rfl _ _ _ ht1.out (by first | assumption | omega) Try.underlying35 rfl ttInfo ?_; simp only [Act.put, List.setIfInBounds_toArray, List.set_cons_zero, List.set_cons_succ]; go_big_quiet_on) | (go_big_quiet_want; refine quiet_load_row 35 _ rfl _ rfl _ _ _ ht2.out (by first | assumption | omega) Try.underlying35 rfl ttInfo ?_; simp only [Act.put, List.setIfInBounds_toArray, List.set_cons_zero, List.set_cons_succ]; go_big_quiet_on) | (go_big_quiet_want; refine quiet_load_sub 25 _ rfl _ 0 rfl _ _ #[.int .i64 x0, .int .i64 y0, .int .i64 z0, .int .i64 u0, .slice A0 n0 c0, .int .i64 x1, .int .i64 y1, .int .i64 z1, .int .i64 u1, .slice A1 n1 c1, .int .i64 x2, .int .i64 y2, .int .i64 z2, .int .i64 u2, .slice A2 n2 c2] _ hc.out (by first | assumption | omega) rfl Try.underlying25 rfl t3Info ?_; simp only [Act.put, List.setIfInBounds_toArray, List.set_cons_zero, List.set_cons_succ]; go_big_quiet_on) | go_big_quiet_step (fail))
  refine wpQuiet_nil ?_
  refine held_heavy (i := 18) (by kernel_rfl) rfl (by rfl) (of_decide_eq_true (by kernel_rfl)) (fun K hK => ?_)
  go_simp
  refine (example_true _).mono ?_
  rintro e U5 ⟨rfl, hv5⟩
  have hbU5 : Below X2.heap.size X2 U5 := (below_on hbU4 hv5)
  refine hK _ _ ⟨⟨U5, (hbU5.mono (Nat.le_refl _))⟩, rfl⟩ ?_
  clear hK K
  try simp only [Act.put, List.setIfInBounds_toArray, List.set_cons_zero, List.set_cons_succ]
  refine held_quiets (fun _ _ _ _ _ h => h) (by kernel_rfl) ⟨⟨_, (hbU5.mono (Nat.le_refl _))⟩, rfl⟩ [19, 20] _ _ _ (by kernel_rfl) (by kernel_rfl) (of_decide_eq_true (by kernel_rfl)) ?_
  simp only [List.filterMap, List.getElem?_toArray, List.getElem?_cons_succ, List.getElem?_cons_zero]
  repeat (first | (go_big_quiet_want; refine quiet_load_row 35 _ rfl _ rfl _ _ _ ht1.out (by first | assumption | omega) Try.underlying35 rfl ttInfo ?_; simp only [Act.put, List.setIfInBounds_toArray, List.set_cons_zero, List.set_cons_succ]; go_big_quiet_on) | (go_big_quiet_want; refine quiet_load_row 35 _ rfl _ rfl _ _ _ ht2.out (by first | assumption | omega) Try.underlying35 rfl ttInfo ?_; simp only [Act.put, List.setIfInBounds_toArray, List.set_cons_zero, List.set_cons_succ]; go_big_quiet_on) | (go_big_quiet_want; refine quiet_load_sub 25 _ rfl _ 0 rfl _ _ #[.int .i64 x0, .int .i64 y0, .int .i64 z0, .int .i64 u0, .slice A0 n0 c0, .int .i64 x1, .int .i64 y1, .int .i64 z1, .int .i64 u1, .slice A1 n1 c1, .int .i64 x2, .int .i64 y2, .int .i64 z2, .int .i64 u2, .slice A2 n2 c2] _ hc.out (by first | assumption | omega) rfl Try.underlying25 rfl t3Info ?_; simp only [Act.put, List.setIfInBounds_toArray, List.set_cons_zero, List.set_cons_succ]; go_big_quiet_on) | go_big_quiet_step (fail))
  refine wpQuiet_nil ?_
  refine wpAnyH_done (by kernel_rfl) ?_ _
  refine NoPanic.normal ?_
  replace hB := Lib.hid (below_on hB.out hbU5)
  clear hbU1 hbU2 hbU3 hbU4 hbU5
  go_wp2
  go_ret
  exact ⟨rfl, hB.out⟩
set_option maxRecDepth 100000 in
set_option maxHeartbeats 16000000 in
theorem ori_yes_swap (x0 y0 z0 u0 x1 y1 z1 u1 x2 y2 z2 u2 : Int) (n0 n1 n2 : Nat) (h0 : n0 ≤ 17592186043904) (h1 : n1 ≤ 17592186043904) (h2 : n2 ≤ 17592186043904) (f0 f1 f2 : Nat → Int) (A0 A1 A2 : Option Addr) (c0 c1 c2 : Nat) (mo pr : Int) (cw : Bool) (w : World) (k0 : Sl w A0 n0 c0 f0) (k1 : Sl w A1 n1 c1 f1) (k2 : Sl w A2 n2 c2 f2) (hn : areaI x0 y0 x1 y1 x2 y2 < 0) (hkp : keepB (areaI x0 y0 x1 y1 x2 y2) mo cw = true) :
    Calls Try.prog 7 #[.agg #[.int .i64 x0, .int .i64 y0, .int .i64 z0, .int .i64 u0, .slice A0 n0 c0, .int .i64 x1, .int .i64 y1, .int .i64 z1, .int .i64 u1, .slice A1 n1 c1, .int .i64 x2, .int .i64 y2, .int .i64 z2, .int .i64 u2, .slice A2 n2 c2, .int .i64 mo, .bool cw, .int .i64 pr]] w fun e w' => e = .returned (.bool true) ∧ Below w.heap.size w w' := by
  have hc := Lib.hid (Blk.new w 33 #[.int .i64 x0, .int .i64 y0, .int .i64 z0, .int .i64 u0, .slice A0 n0 c0, .int .i64 x1, .int .i64 y1, .int .i64 z1, .int .i64 u1, .slice A1 n1 c1, .int .i64 x2, .int .i64 y2, .int .i64 z2, .int .i64 u2, .slice A2 n2 c2, .int .i64 mo, .bool cw, .int .i64 pr])
  have hB : Hid (Below w.heap.size w (w.alloc (.cells #[.int .i64 x0, .int .i64 y0, .int .i64 z0, .int .i64 u0, .slice A0 n0 c0, .int .i64 x1, .int .i64 y1, .int .i64 z1, .int .i64 u1, .slice A1 n1 c1, .int .i64 x2, .int .i64 y2, .int .i64 z2, .int .i64 u2, .slice A2 n2 c2, .int .i64 mo, .bool cw, .int .i64 pr] 33))) := Lib.hid (by go_grown)
  replace k0 := Lib.hid (k0.call hB.out)
  replace k1 := Lib.hid (k1.call hB.out)
  replace k2 := Lib.hid (k2.call hB.out)
  replace hn := Lib.hid hn
  replace hkp := Lib.hid hkp
  go_enter Try.func7, Try.ntmps7
  have cc := hc.out.cell
  go_wp2_with (refine wpList_load_sub rfl 25 _ rfl _ 0 rfl _ _ #[.int .i64 x0, .int .i64 y0, .int .i64 z0, .int .i64 u0, .slice A0 n0 c0, .int .i64 x1, .int .i64 y1, .int .i64 z1, .int .i64 u1, .slice A1 n1 c1, .int .i64 x2, .int .i64 y2, .int .i64 z2, .int .i64 u2, .slice A2 n2 c2] _ _ hc.out rfl Try.underlying25 rfl t3Info ?_)
  refine (setup_swap x0 y0 z0 u0 x1 y1 z1 u1 x2 y2 z2 u2 n0 n1 n2 h0 h1 h2 f0 f1 f2 A0 A1 A2 c0 c1 c2 mo pr cw _ k0.out k1.out k2.out hn.out hkp.out).mono ?_
  rintro e W1 ⟨hb, B0, B1, B2, d0, d1, d2, rfl, s0, s1, s2⟩
  obtain ⟨fr, hfr⟩ : ∃ b, frontB (areaI x0 y0 x1 y1 x2 y2) cw = b := ⟨_, rfl⟩
  rw [hfr]
  replace hfr := Lib.hid hfr
  clear cc
  replace hc := Lib.hid (hc.out.call hb)
  replace k0 := Lib.hid (k0.out.call hb)
  replace k1 := Lib.hid (k1.out.call hb)
  replace k2 := Lib.hid (k2.out.call hb)
  replace hB := Lib.hid (below_on hB.out hb)
  clear hb
  go_upto_region 2 with (refine wpList_store_row rfl 35 _ _ rfl W1.heap.size #[.int .i64 x0, .int .i64 y0, .int .i64 z0, .int .i64 u0, .slice B0 n0 d0, .int .i64 x2, .int .i64 y2, .int .i64 z2, .int .i64 u2, .slice B2 n2 d2, .int .i64 x1, .int .i64 y1, .int .i64 z1, .int .i64 u1, .slice B1 n1 d1, .int .i64 pr, .bool fr] rfl rfl 35 _ (Blk.new W1 35 #[.int .i64 0, .int .i64 0, .int .i64 0, .int .i64 0, .slice none 0 0, .int .i64 0, .int .i64 0, .int .i64 0, .int .i64 0, .slice none 0 0, .int .i64 0, .int .i64 0, .int .i64 0, .int .i64 0, .slice none 0 0, .int .i64 0, .bool false]) ttInfo rfl (by kernel_rfl) ?_)
  have ht1 := Lib.hid (Blk.setRow (Blk.new W1 35 #[.int .i64 0, .int .i64 0, .int .i64 0, .int .i64 0, .slice none 0 0, .int .i64 0, .int .i64 0, .int .i64 0, .int .i64 0, .slice none 0 0, .int .i64 0, .int .i64 0, .int .i64 0, .int .i64 0, .slice none 0 0, .int .i64 0, .bool false]) #[.int .i64 x0, .int .i64 y0, .int .i64 z0, .int .i64 u0, .slice B0 n0 d0, .int .i64 x2, .int .i64 y2, .int .i64 z2, .int .i64 u2, .slice B2 n2 d2, .int .i64 x1, .int .i64 y1, .int .i64 z1, .int .i64 u1, .slice B1 n1 d1, .int .i64 pr, .bool fr])
  replace hc := Lib.hid ((hc.out.alloc (.cells #[.int .i64 0, .int .i64 0, .int .i64 0, .int .i64 0, .slice none 0 0, .int .i64 0, .int .i64 0, .int .i64 0, .int .i64 0, .slice none 0 0, .int .i64 0, .int .i64 0, .int .i64 0, .int .i64 0, .slice none 0 0, .int .i64 0, .bool false] 35)).farRow (Nat.ne_of_lt hc.out.lt) #[.int .i64 x0, .int .i64 y0, .int .i64 z0, .int .i64 u0, .slice B0 n0 d0, .int .i64 x2, .int .i64 y2, .int .i64 z2, .int .i64 u2, .slice B2 n2 d2, .int .i64 x1, .int .i64 y1, .int .i64 z1, .int .i64 u1, .slice B1 n1 d1, .int .i64 pr, .bool fr])
  replace k0 := Lib.hid (sl_made k0.out (.cells #[.int .i64 0, .int .i64 0, .int .i64 0, .int .i64 0, .slice none 0 0, .int .i64 0, .int .i64 0, .int .i64 0, .int .i64 0, .slice none 0 0, .int .i64 0, .int .i64 0, .int .i64 0, .int .i64 0, .slice none 0 0, .int .i64 0, .bool false] 35) #[.int .i64 x0, .int .i64 y0, .int .i64 z0, .int .i64 u0, .slice B0 n0 d0, .int .i64 x2, .int .i64 y2, .int .i64 z2, .int .i64 u2, .slice B2 n2 d2, .int .i64 x1, .int .i64 y1, .int .i64 z1, .int .i64 u1, .slice B1 n1 d1, .int .i64 pr, .bool fr])
  replace k1 := Lib.hid (sl_made k1.out (.cells #[.int .i64 0, .int .i64 0, .int .i64 0, .int .i64 0, .slice none 0 0, .int .i64 0, .int .i64 0, .int .i64 0, .int .i64 0, .slice none 0 0, .int .i64 0, .int .i64 0, .int .i64 0, .int .i64 0, .slice none 0 0, .int .i64 0, .bool false] 35) #[.int .i64 x0, .int .i64 y0, .int .i64 z0, .int .i64 u0, .slice B0 n0 d0, .int .i64 x2, .int .i64 y2, .int .i64 z2, .int .i64 u2, .slice B2 n2 d2, .int .i64 x1, .int .i64 y1, .int .i64 z1, .int .i64 u1, .slice B1 n1 d1, .int .i64 pr, .bool fr])
  replace k2 := Lib.hid (sl_made k2.out (.cells #[.int .i64 0, .int .i64 0, .int .i64 0, .int .i64 0, .slice none 0 0, .int .i64 0, .int .i64 0, .int .i64 0, .int .i64 0, .slice none 0 0, .int .i64 0, .int .i64 0, .int .i64 0, .int .i64 0, .slice none 0 0, .int .i64 0, .bool false] 35) #[.int .i64 x0, .int .i64 y0, .int .i64 z0, .int .i64 u0, .slice B0 n0 d0, .int .i64 x2, .int .i64 y2, .int .i64 z2, .int .i64 u2, .slice B2 n2 d2, .int .i64 x1, .int .i64 y1, .int .i64 z1, .int .i64 u1, .slice B1 n1 d1, .int .i64 pr, .bool fr])
  replace s0 := Lib.hid (sl_made s0 (.cells #[.int .i64 0, .int .i64 0, .int .i64 0, .int .i64 0, .slice none 0 0, .int .i64 0, .int .i64 0, .int .i64 0, .int .i64 0, .slice none 0 0, .int .i64 0, .int .i64 0, .int .i64 0, .int .i64 0, .slice none 0 0, .int .i64 0, .bool false] 35) #[.int .i64 x0, .int .i64 y0, .int .i64 z0, .int .i64 u0, .slice B0 n0 d0, .int .i64 x2, .int .i64 y2, .int .i64 z2, .int .i64 u2, .slice B2 n2 d2, .int .i64 x1, .int .i64 y1, .int .i64 z1, .int .i64 u1, .slice B1 n1 d1, .int .i64 pr, .bool fr])
  replace s1 := Lib.hid (sl_made s1 (.cells #[.int .i64 0, .int .i64 0, .int .i64 0, .int .i64 0, .slice none 0 0, .int .i64 0, .int .i64 0, .int .i64 0, .int .i64 0, .slice none 0 0, .int .i64 0, .int .i64 0, .int .i64 0, .int .i64 0, .slice none 0 0, .int .i64 0, .bool false] 35) #[.int .i64 x0, .int .i64 y0, .int .i64 z0, .int .i64 u0, .slice B0 n0 d0, .int .i64 x2, .int .i64 y2, .int .i64 z2, .int .i64 u2, .slice B2 n2 d2, .int .i64 x1, .int .i64 y1, .int .i64 z1, .int .i64 u1, .slice B1 n1 d1, .int .i64 pr, .bool fr])
  replace s2 := Lib.hid (sl_made s2 (.cells #[.int .i64 0, .int .i64 0, .int .i64 0, .int .i64 0, .slice none 0 0, .int .i64 0, .int .i64 0, .int .i64 0, .int .i64 0, .slice none 0 0, .int .i64 0, .int .i64 0, .int .i64 0, .int .i64 0, .slice none 0 0, .int .i64 0, .bool false] 35) #[.int .i64 x0, .int .i64 y0, .int .i64 z0, .int .i64 u0, .slice B0 n0 d0, .int .i64 x2, .int .i64 y2, .int .i64 z2, .int .i64 u2, .slice B2 n2 d2, .int .i64 x1, .int .i64 y1, .int .i64 z1, .int .i64 u1, .slice B1 n1 d1, .int .i64 pr, .bool fr])
  replace hB := Lib.hid (below_setRow (hB.out.alloc hB.out.size (.cells #[.int .i64 0, .int .i64 0, .int .i64 0, .int .i64 0, .slice none 0 0, .int .i64 0, .int .i64 0, .int .i64 0, .int .i64 0, .slice none 0 0, .int .i64 0, .int .i64 0, .int .i64 0, .int .i64 0, .slice none 0 0, .int .i64 0, .bool false] 35)) hB.out.size #[.int .i64 x0, .int .i64 y0, .int .i64 z0, .int .i64 u0, .slice B0 n0 d0, .int .i64 x2, .int .i64 y2, .int .i64 z2, .int .i64 u2, .slice B2 n2 d2, .int .i64 x1, .int .i64 y1, .int .i64 z1, .int .i64 u1, .slice B1 n1 d1, .int .i64 pr, .bool fr])
  generalize (W1.alloc (.cells #[.int .i64 0, .int .i64 0, .int .i64 0, .int .i64 0, .slice none 0 0, .int .i64 0, .int .i64 0, .int .i64 0, .int .i64 0, .slice none 0 0, .int .i64 0, .int .i64 0, .int .i64 0, .int .i64 0, .slice none 0 0, .int .i64 0, .bool false] 35)).setRow W1.heap.size #[.int .i64 x0, .int .i64 y0, .int .i64 z0, .int .i64 u0, .slice B0 n0 d0, .int .i64 x2, .int .i64 y2, .int .i64 z2, .int .i64 u2, .slice B2 n2 d2, .int .i64 x1, .int .i64 y1, .int .i64 z1, .int .i64 u1, .slice B1 n1 d1, .int .i64 pr, .bool fr] = X1 at *
  have cc := hc.out.cell
  go_wp2_with (refine wpList_load_sub rfl 25 _ rfl _ 0 rfl _ _ #[.int .i64 x0, .int .i64 y0, .int .i64 z0, .int .i64 u0, .slice A0 n0 c0, .int .i64 x1, .int .i64 y1, .int .i64 z1, .int .i64 u1, .slice A1 n1 c1, .int .i64 x2, .int .i64 y2, .int .i64 z2, .int .i64 u2, .slice A2 n2 c2] _ _ hc.out rfl Try.underlying25 rfl t3Info ?_)
  refine (rSetup_swap x0 y0 z0 u0 x1 y1 z1 u1 x2 y2 z2 u2 n0 n1 n2 h0 h1 h2 f0 f1 f2 A0 A1 A2 c0 c1 c2 mo pr cw _ k0.out k1.out k2.out hn.out hkp.out).mono ?_
  rintro e W2 ⟨hb, E0, E1, E2, e0, e1, e2, rfl, t0, t1, t2⟩
  rw [hfr]
  clear cc
  replace hc := Lib.hid (hc.out.call hb)
  replace k0 := Lib.hid (k0.out.call hb)
  replace k1 := Lib.hid (k1.out.call hb)
  replace k2 := Lib.hid (k2.out.call hb)
  replace ht1 := Lib.hid (ht1.out.call hb)
  replace s0 := Lib.hid (s0.out.call hb)
  replace s1 := Lib.hid (s1.out.call hb)
  replace s2 := Lib.hid (s2.out.call hb)
  replace hB := Lib.hid (below_on hB.out hb)
  clear hb
  go_upto_region 3 with (refine wpList_store_row rfl 35 _ _ rfl W2.heap.size #[.int .i64 x0, .int .i64 y0, .int .i64 z0, .int .i64 u0, .slice E0 n0 e0, .int .i64 x2, .int .i64 y2, .int .i64 z2, .int .i64 u2, .slice E2 n2 e2, .int .i64 x1, .int .i64 y1, .int .i64 z1, .int .i64 u1, .slice E1 n1 e1, .int .i64 pr, .bool fr] rfl rfl 35 _ (Blk.new W2 35 #[.int .i64 0, .int .i64 0, .int .i64 0, .int .i64 0, .slice none 0 0, .int .i64 0, .int .i64 0, .int .i64 0, .int .i64 0, .slice none 0 0, .int .i64 0, .int .i64 0, .int .i64 0, .int .i64 0, .slice none 0 0, .int .i64 0, .bool false]) ttInfo rfl (by kernel_rfl) ?_)
  have ht2 := Lib.hid (Blk.setRow (Blk.new W2 35 #[.int .i64 0, .int .i64 0, .int .i64 0, .int .i64 0, .slice none 0 0, .int .i64 0, .int .i64 0, .int .i64 0, .int .i64 0, .slice none 0 0, .int .i64 0, .int .i64 0, .int .i64 0, .int .i64 0, .slice none 0 0, .int .i64 0, .bool false]) #[.int .i64 x0, .int .i64 y0, .int .i64 z0, .int .i64 u0, .slice E0 n0 e0, .int .i64 x2, .int .i64 y2, .int .i64 z2, .int .i64 u2, .slice E2 n2 e2, .int .i64 x1, .int .i64 y1, .int .i64 z1, .int .i64 u1, .slice E1 n1 e1, .int .i64 pr, .bool fr])
  replace hc := Lib.hid ((hc.out.alloc (.cells #[.int .i64 0, .int .i64 0, .int .i64 0, .int .i64 0, .slice none 0 0, .int .i64 0, .int .i64 0, .int .i64 0, .int .i64 0, .slice none 0 0, .int .i64 0, .int .i64 0, .int .i64 0, .int .i64 0, .slice none 0 0, .int .i64 0, .bool false] 35)).farRow (Nat.ne_of_lt hc.out.lt) #[.int .i64 x0, .int .i64 y0, .int .i64 z0, .int .i64 u0, .slice E0 n0 e0, .int .i64 x2, .int .i64 y2, .int .i64 z2, .int .i64 u2, .slice E2 n2 e2, .int .i64 x1, .int .i64 y1, .int .i64 z1, .int .i64 u1, .slice E1 n1 e1, .int .i64 pr, .bool fr])
  replace k0 := Lib.hid (sl_made k0.out (.cells #[.int .i64 0, .int .i64 0, .int .i64 0, .int .i64 0, .slice none 0 0, .int .i64 0, .int .i64 0, .int .i64 0, .int .i64 0, .slice none 0 0, .int .i64 0, .int .i64 0, .int .i64 0, .int .i64 0, .slice none 0 0, .int .i64 0, .bool false] 35) #[.int .i64 x0, .int .i64 y0, .int .i64 z0, .int .i64 u0, .slice E0 n0 e0, .int .i64 x2, .int .i64 y2, .int .i64 z2, .int .i64 u2, .slice E2 n2 e2, .int .i64 x1, .int .i64 y1, .int .i64 z1, .int .i64 u1, .slice E1 n1 e1, .int .i64 pr, .bool fr])
  replace k1 := Lib.hid (sl_made k1.out (.cells #[.int .i64 0, .int .i64 0, .int .i64 0, .int .i64 0, .slice none 0 0, .int .i64 0, .int .i64 0, .int .i64 0, .int .i64 0, .slice none 0 0, .int .i64 0, .int .i64 0, .int .i64 0, .int .i64 0, .slice none 0 0, .int .i64 0, .bool false] 35) #[.int .i64 x0, .int .i64 y0, .int .i64 z0, .int .i64 u0, .slice E0 n0 e0, .int .i64 x2, .int .i64 y2, .int .i64 z2, .int .i64 u2, .slice E2 n2 e2, .int .i64 x1, .int .i64 y1, .int .i64 z1, .int .i64 u1, .slice E1 n1 e1, .int .i64 pr, .bool fr])
  replace k2 := Lib.hid (sl_made k2.out (.cells #[.int .i64 0, .int .i64 0, .int .i64 0, .int .i64 0, .slice none 0 0, .int .i64 0, .int .i64 0, .int .i64 0, .int .i64 0, .slice none 0 0, .int .i64 0, .int .i64 0, .int .i64 0, .int .i64 0, .slice none 0 0, .int .i64 0, .bool false] 35) #[.int .i64 x0, .int .i64 y0, .int .i64 z0, .int .i64 u0, .slice E0 n0 e0, .int .i64 x2, .int .i64 y2, .int .i64 z2, .int .i64 u2, .slice E2 n2 e2, .int .i64 x1, .int .i64 y1, .int .i64 z1, .int .i64 u1, .slice E1 n1 e1, .int .i64 pr, .bool fr])
  replace ht1 := Lib.hid ((ht1.out.alloc (.cells #[.int .i64 0, .int .i64 0, .int .i64 0, .int .i64 0, .slice none 0 0, .int .i64 0, .int .i64 0, .int .i64 0, .int .i64 0, .slice none 0 0, .int .i64 0, .int .i64 0, .int .i64 0, .int .i64 0, .slice none 0 0, .int .i64 0, .bool false] 35)).farRow (Nat.ne_of_lt ht1.out.lt) #[.int .i64 x0, .int .i64 y0, .int .i64 z0, .int .i64 u0, .slice E0 n0 e0, .int .i64 x2, .int .i64 y2, .int .i64 z2, .int .i64 u2, .slice E2 n2 e2, .int .i64 x1, .int .i64 y1, .int .i64 z1, .int .i64 u1, .slice E1 n1 e1, .int .i64 pr, .bool fr])
  replace s0 := Lib.hid (sl_made s0.out (.cells #[.int .i64 0, .int .i64 0, .int .i64 0, .int .i64 0, .slice none 0 0, .int .i64 0, .int .i64 0, .int .i64 0, .int .i64 0, .slice none 0 0, .int .i64 0, .int .i64 0, .int .i64 0, .int .i64 0, .slice none 0 0, .int .i64 0, .bool false] 35) #[.int .i64 x0, .int .i64 y0, .int .i64 z0, .int .i64 u0, .slice E0 n0 e0, .int .i64 x2, .int .i64 y2, .int .i64 z2, .int .i64 u2, .slice E2 n2 e2, .int .i64 x1, .int .i64 y1, .int .i64 z1, .int .i64 u1, .slice E1 n1 e1, .int .i64 pr, .bool fr])
  replace s1 := Lib.hid (sl_made s1.out (.cells #[.int .i64 0, .int .i64 0, .int .i64 0, .int .i64 0, .slice none 0 0, .int .i64 0, .int .i64 0, .int .i64 0, .int .i64 0, .slice none 0 0, .int .i64 0, .int .i64 0, .int .i64 0, .int .i64 0, .slice none 0 0, .int .i64 0, .bool false] 35) #[.int .i64 x0, .int .i64 y0, .int .i64 z0, .int .i64 u0, .slice E0 n0 e0, .int .i64 x2, .int .i64 y2, .int .i64 z2, .int .i64 u2, .slice E2 n2 e2, .int .i64 x1, .int .i64 y1, .int .i64 z1, .int .i64 u1, .slice E1 n1 e1, .int .i64 pr, .bool fr])
  replace s2 := Lib.hid (sl_made s2.out (.cells #[.int .i64 0, .int .i64 0, .int .i64 0, .int .i64 0, .slice none 0 0, .int .i64 0, .int .i64 0, .int .i64 0, .int .i64 0, .slice none 0 0, .int .i64 0, .int .i64 0, .int .i64 0, .int .i64 0, .slice none 0 0, .int .i64 0, .bool false] 35) #[.int .i64 x0, .int .i64 y0, .int .i64 z0, .int .i64 u0, .slice E0 n0 e0, .int .i64 x2, .int .i64 y2, .int .i64 z2, .int .i64 u2, .slice E2 n2 e2, .int .i64 x1, .int .i64 y1, .int .i64 z1, .int .i64 u1, .slice E1 n1 e1, .int .i64 pr, .bool fr])
  replace t0 := Lib.hid (sl_made t0 (.cells #[.int .i64 0, .int .i64 0, .int .i64 0, .int .i64 0, .slice none 0 0, .int .i64 0, .int .i64 0, .int .i64 0, .int .i64 0, .slice none 0 0, .int .i64 0, .int .i64 0, .int .i64 0, .int .i64 0, .slice none 0 0, .int .i64 0, .bool false] 35) #[.int .i64 x0, .int .i64 y0, .int .i64 z0, .int .i64 u0, .slice E0 n0 e0, .int .i64 x2, .int .i64 y2, .int .i64 z2, .int .i64 u2, .slice E2 n2 e2, .int .i64 x1, .int .i64 y1, .int .i64 z1, .int .i64 u1, .slice E1 n1 e1, .int .i64 pr, .bool fr])
  replace t1 := Lib.hid (sl_made t1 (.cells #[.int .i64 0, .int .i64 0, .int .i64 0, .int .i64 0, .slice none 0 0, .int .i64 0, .int .i64 0, .int .i64 0, .int .i64 0, .slice none 0 0, .int .i64 0, .int .i64 0, .int .i64 0, .int .i64 0, .slice none 0 0, .int .i64 0, .bool false] 35) #[.int .i64 x0, .int .i64 y0, .int .i64 z0, .int .i64 u0, .slice E0 n0 e0, .int .i64 x2, .int .i64 y2, .int .i64 z2, .int .i64 u2, .slice E2 n2 e2, .int .i64 x1, .int .i64 y1, .int .i64 z1, .int .i64 u1, .slice E1 n1 e1, .int .i64 pr, .bool fr])
  replace t2 := Lib.hid (sl_made t2 (.cells #[.int .i64 0, .int .i64 0, .int .i64 0, .int .i64 0, .slice none 0 0, .int .i64 0, .int .i64 0, .int .i64 0, .int .i64 0, .slice none 0 0, .int .i64 0, .int .i64 0, .int .i64 0, .int .i64 0, .slice none 0 0, .int .i64 0, .bool false] 35) #[.int .i64 x0, .int .i64 y0, .int .i64 z0, .int .i64 u0, .slice E0 n0 e0, .int .i64 x2, .int .i64 y2, .int .i64 z2, .int .i64 u2, .slice E2 n2 e2, .int .i64 x1, .int .i64 y1, .int .i64 z1, .int .i64 u1, .slice E1 n1 e1, .int .i64 pr, .bool fr])
  replace hB := Lib.hid (below_setRow (hB.out.alloc hB.out.size (.cells #[.int .i64 0, .int .i64 0, .int .i64 0, .int .i64 0, .slice none 0 0, .int .i64 0, .int .i64 0, .int .i64 0, .int .i64 0, .slice none 0 0, .int .i64 0, .int .i64 0, .int .i64 0, .int .i64 0, .slice none 0 0, .int .i64 0, .bool false] 35)) hB.out.size #[.int .i64 x0, .int .i64 y0, .int .i64 z0, .int .i64 u0, .slice E0 n0 e0, .int .i64 x2, .int .i64 y2, .int .i64 z2, .int .i64 u2, .slice E2 n2 e2, .int .i64 x1, .int .i64 y1, .int .i64 z1, .int .i64 u1, .slice E1 n1 e1, .int .i64 pr, .bool fr])
  generalize (W2.alloc (.cells #[.int .i64 0, .int .i64 0, .int .i64 0, .int .i64 0, .slice none 0 0, .int .i64 0, .int .i64 0, .int .i64 0, .int .i64 0, .slice none 0 0, .int .i64 0, .int .i64 0, .int .i64 0, .int .i64 0, .slice none 0 0, .int .i64 0, .bool false] 35)).setRow W2.heap.size #[.int .i64 x0, .int .i64 y0, .int .i64 z0, .int .i64 u0, .slice E0 n0 e0, .int .i64 x2, .int .i64 y2, .int .i64 z2, .int .i64 u2, .slice E2 n2 e2, .int .i64 x1, .int .i64 y1, .int .i64 z1, .int .i64 u1, .slice E1 n1 e1, .int .i64 pr, .bool fr] = X2 at *
  have cc := hc.out.cell
  have lc := hc.out.lt
  have l1 := ht1.out.lt
  have l2 := ht2.out.lt
  go_wp2_with fail
  refine wp_region_noPanic ?_
  refine wp_region_held_drew (S := fun w' => ∃ n : Ext X2 (X2.heap.size), w' = n.val) (by kernel_rfl) ⟨⟨X2.drew, (Below.refl _ _).drew⟩, rfl⟩ (fun _ => ?_)
  refine held_quiets (fun _ _ _ _ _ h => h) (by kernel_rfl) ⟨⟨_, (((Below.refl _ _).drew).mono (Nat.le_refl _))⟩, rfl⟩ [0, 1, 2, 3, 4, 5] _ _ _ (by kernel_rfl) (by kernel_rfl) (of_decide_eq_true (by kernel_rfl)) ?_
  simp only [List.filterMap, List.getElem?_toArray, List.getElem?_cons_succ, List.getElem?_cons_zero]
  repeat (first | (go_big_quiet_want; refine quiet_load_row 35 _ rfl _ rfl _ _ _ ht1.out (by first | assumption | omega) Try.underlying35 rfl ttInfo ?_; simp only [Act.put, List.setIfInBounds_toArray, List.set_cons_zero, List.set_cons_succ]; go_big_quiet_on) | (go_big_quiet_want; refine quiet_load_row 35 _ rfl _ rfl _ _ _ ht2.out (by first | assumption | omega) Try.underlying35 rfl ttInfo ?_; simp only [Act.put, List.setIfInBounds_toArray, List.set_cons_zero, List.set_cons_succ]; go_big_quiet_on) | (go_big_quiet_want; refine quiet_load_sub 25 _ rfl _ 0 rfl _ _ #[.int .i64 x0, .int .i64 y0, .int .i64 z0, .int .i64 u0, .slice A0 n0 c0, .int .i64 x1, .int .i64 y1, .int .i64 z1, .int .i64 u1, .slice A1 n1 c1, .int .i64 x2, .int .i64 y2, .int .i64 z2, .int .i64 u2, .slice A2 n2 c2] _ hc.out (by first | assumption | omega) rfl Try.underlying25 rfl t3Info ?_; simp only [Act.put, List.setIfInBounds_toArray, List.set_cons_zero, List.set_cons_succ]; go_big_quiet_on) | go_big_quiet_step (fail))
  refine wpQuiet_nil ?_
  refine held_heavy (i := 6) (by kernel_rfl) rfl (by rfl) (of_decide_eq_true (by kernel_rfl)) (fun K hK => ?_)
  go_simp
  refine (sameTriangle_sl x0 y0 z0 u0 x2 y2 z2 u2 x1 y1 z1 u1 n0 n2 n1 h0 h2 h1 f0 f2 f1 B0 B2 B1 E0 E2 E1 d0 d2 d1 e0 e2 e1 pr fr _ s0.out.drew s2.out.drew s1.out.drew t0.out.drew t2.out.drew t1.out.drew).mono ?_
  rintro e U1 ⟨rfl, hv1⟩
  have hbU1 : Below X2.heap.size X2 U1 := (((Below.refl _ _).drew).trans (hv1.mono (Nat.le_refl _)))
  replace k0 := Lib.hid (k0.out.drew.call hv1)
  replace k1 := Lib.hid (k1.out.drew.call hv1)
  replace k2 := Lib.hid (k2.out.drew.call hv1)
  clear s0 t0 s1 t1 s2 t2
  refine hK _ _ ⟨⟨U1, (hbU1.mono (Nat.le_refl _))⟩, rfl⟩ ?_
  clear hK K
  try simp only [Act.put, List.setIfInBounds_toArray, List.set_cons_zero, List.set_cons_succ]
  refine held_quiets (fun _ _ _ _ _ h => h) (by kernel_rfl) ⟨⟨_, (hbU1.mono (Nat.le_refl _))⟩, rfl⟩ [7, 8, 9, 10, 12, 13] _ _ _ (by kernel_rfl) (by kernel_rfl) (of_decide_eq_true (by kernel_rfl)) ?_
  simp only [List.filterMap, List.getElem?_toArray, List.getElem?_cons_succ, List.getElem?_cons_zero]
  repeat (first | (go_big_quiet_want; refine quiet_load_row 35 _ rfl _ rfl _ _ _ ht1.out (by first | assumption | omega) Try.underlying35 rfl ttInfo ?_; simp only [Act.put, List.setIfInBounds_toArray, List.set_cons_zero, List.set_cons_succ]; go_big_quiet_on) | (go_big_quiet_want; refine quiet_load_row 35 _ rfl _ rfl _ _ _ ht2.out (by first | assumption | omega) Try.underlying35 rfl ttInfo ?_; simp only [Act.put, List.setIfInBounds_toArray, List.set_cons_zero, List.set_cons_succ]; go_big_quiet_on) | (go_big_quiet_want; refine quiet_load_sub 25 _ rfl _ 0 rfl _ _ #[.int .i64 x0, .int .i64 y0, .int .i64 z0, .int .i64 u0, .slice A0 n0 c0, .int .i64 x1, .int .i64 y1, .int .i64 z1, .int .i64 u1, .slice A1 n1 c1, .int .i64 x2, .int .i64 y2, .int .i64 z2, .int .i64 u2, .slice A2 n2 c2] _ hc.out (by first | assumption | omega) rfl Try.underlying25 rfl t3Info ?_; simp only [Act.put, List.setIfInBounds_toArray, List.set_cons_zero, List.set_cons_succ]; go_big_quiet_on) | go_big_quiet_step (fail))
  refine wpQuiet_nil ?_
  refine held_heavy (i := 11) (by kernel_rfl) rfl (by rfl) (of_decide_eq_true (by kernel_rfl)) (fun K hK => ?_)
  go_simp
  refine (orient_swap x0 y0 z0 u0 x1 y1 z1 u1 x2 y2 z2 u2 n0 n1 n2 h0 h1 h2 f0 f1 f2 A0 A1 A2 c0 c1 c2 _ k0.out k1.out k2.out hn.out).mono ?_
  rintro e U2 ⟨hv2, P0, P1, P2, p0, p1, p2, rfl, q0, q1, q2, -, -, -⟩
  have hbU2 : Below X2.heap.size X2 U2 := (below_on hbU1 hv2)
  replace k0 := Lib.hid (k0.out.call hv2)
  replace k1 := Lib.hid (k1.out.call hv2)
  replace k2 := Lib.hid (k2.out.call hv2)
  replace q0 := Lib.hid q0
  replace q1 := Lib.hid q1
  replace q2 := Lib.hid q2
  refine hK _ _ ⟨⟨U2, (hbU2.mono (Nat.le_refl _))⟩, rfl⟩ ?_
  clear hK K
  try simp only [Act.put, List.setIfInBounds_toArray, List.set_cons_zero, List.set_cons_succ]
  refine held_heavy (i := 14) (by kernel_rfl) rfl (by rfl) (of_decide_eq_true (by kernel_rfl)) (fun K hK => ?_)
  go_simp
  refine (rOrient_swap x0 y0 z0 u0 x1 y1 z1 u1 x2 y2 z2 u2 n0 n1 n2 h0 h1 h2 f0 f1 f2 A0 A1 A2 c0 c1 c2 _ k0.out k1.out k2.out hn.out).mono ?_
  rintro e U3 ⟨hv3, R0, R1, R2, r0, r1, r2, rfl, j0, j1, j2, -, -, -⟩
  have hbU3 : Below X2.heap.size X2 U3 := (below_on hbU2 hv3)
  replace q0 := Lib.hid (q0.out.call hv3)
  replace q1 := Lib.hid (q1.out.call hv3)
  replace q2 := Lib.hid (q2.out.call hv3)
  replace j0 := Lib.hid j0
  replace j1 := Lib.hid j1
  replace j2 := Lib.hid j2
  refine hK _ _ ⟨⟨U3, (hbU3.mono (Nat.le_refl _))⟩, rfl⟩ ?_
  clear hK K
  try simp only [Act.put, List.setIfInBounds_toArray, List.set_cons_zero, List.set_cons_succ]
  refine held_heavy (i := 15) (by kernel_rfl) rfl (by rfl) (of_decide_eq_true (by kernel_rfl)) (fun K hK => ?_)
  go_simp
  refine (sameVertices_sl x0 y0 z0 u0 x2 y2 z2 u2 x1 y1 z1 u1 n0 n2 n1 h0 h2 h1 f0 f2 f1 P0 P2 P1 R0 R2 R1 p0 p2 p1 r0 r2 r1 _ q0.out q2.out q1.out j0.out j2.out j1.out).mono ?_
  rintro e U4 ⟨rfl, hv4⟩
  have hbU4 : Below X2.heap.size X2 U4 := (below_on hbU3 hv4)
  refine hK _ _ ⟨⟨U4, (hbU4.mono (Nat.le_refl _))⟩, rfl⟩ ?_
  clear hK K
  try simp only [Act.put, List.setIfInBounds_toArray, List.set_cons_zero, List.set_cons_succ]
  refine held_quiets (fun _ _ _ _ _ h => h) (by kernel_rfl) ⟨⟨_, (hbU4.mono (Nat.le_refl _))⟩, rfl⟩ [16, 17] _ _ _ (by kernel_rfl) (by kernel_rfl) (of_decide_eq_true (by kernel_rfl)) ?_
  simp only [List.filterMap, List.getElem?_toArray, List.getElem?_cons_succ, List.getElem?_cons_zero]
  repeat (first | (go_big_quiet_want; refine quiet_load_row 35 _ rfl _ rfl _ _ _ ht1.out (by first | assumption | omega) Try.underlying35 rfl ttInfo ?_; simp only [Act.put, List.setIfInBounds_toArray, List.set_cons_zero, List.set_cons_succ]; go_big_quiet_on) | (go_big_quiet_want; refine quiet_load_row 35 _ rfl _ rfl _ _ _ ht2.out (by first | assumption | omega) Try.underlying35 rfl ttInfo ?_; simp only [Act.put, List.setIfInBounds_toArray, List.set_cons_zero, List.set_cons_succ]; go_big_quiet_on) | (go_big_quiet_want; refine quiet_load_sub 25 _ rfl _ 0 rfl _ _ #[.int .i64 x0, .int .i64 y0, .int .i64 z0, .int .i64 u0, .slice A0 n0 c0, .int .i64 x1, .int .i64 y1, .int .i64 z1, .int .i64 u1, .slice A1 n1 c1, .int .i64 x2, .int .i64 y2, .int .i64 z2, .int .i64 u2, .slice A2 n2 c2] _ hc.out (by first | assumption | omega) rfl Try.underlying25 rfl t3Info ?_; simp only [Act.put, List.setIfInBounds_toArray, List.set_cons_zero, List.set_cons_succ]; go_big_quiet_on) | go_big_quiet_step (fail))
  refine wpQuiet_nil ?_
  refine held_heavy (i := 18) (by kernel_rfl) rfl (by rfl) (of_decide_eq_true (by kernel_rfl)) (fun K hK => ?_)
  go_simp
  refine (example_true _).mono ?_
  rintro e U5 ⟨rfl, hv5⟩
  have hbU5 : Below X2.heap.size X2 U5 := (below_on hbU4 hv5)
  refine hK _ _ ⟨⟨U5, (hbU5.mono (Nat.le_refl _))⟩, rfl⟩ ?_
  clear hK K
  try simp only [Act.put, List.setIfInBounds_toArray, List.set_cons_zero, List.set_cons_succ]
  refine held_quiets (fun _ _ _ _ _ h => h) (by kernel_rfl) ⟨⟨_, (hbU5.mono (Nat.le_refl _))⟩, rfl⟩ [19, 20] _ _ _ (by kernel_rfl) (by kernel_rfl) (of_decide_eq_true (by kernel_rfl)) ?_
  simp only [List.filterMap, List.getElem?_toArray, List.getElem?_cons_succ, List.getElem?_cons_zero]
  repeat (first | (go_big_quiet_want; refine quiet_load_row 35 _ rfl _ rfl _ _ _ ht1.out (by first | assumption | omega) Try.underlying35 rfl ttInfo ?_; simp only [Act.put, List.setIfInBounds_toArray, List.set_cons_zero, List.set_cons_succ]; go_big_quiet_on) | (go_big_quiet_want; refine quiet_load_row 35 _ rfl _ rfl _ _ _ ht2.out (by first | assumption | omega) Try.underlying35 rfl ttInfo ?_; simp only [Act.put, List.setIfInBounds_toArray, List.set_cons_zero, List.set_cons_succ]; go_big_quiet_on) | (go_big_quiet_want; refine quiet_load_sub 25 _ rfl _ 0 rfl _ _ #[.int .i64 x0, .int .i64 y0, .int .i64 z0, .int .i64 u0, .slice A0 n0 c0, .int .i64 x1, .int .i64 y1, .int .i64 z1, .int .i64 u1, .slice A1 n1 c1, .int .i64 x2, .int .i64 y2, .int .i64 z2, .int .i64 u2, .slice A2 n2 c2] _ hc.out (by first | assumption | omega) rfl Try.underlying25 rfl t3Info ?_; simp only [Act.put, List.setIfInBounds_toArray, List.set_cons_zero, List.set_cons_succ]; go_big_quiet_on) | go_big_quiet_step (fail))
  refine wpQuiet_nil ?_
  refine wpAnyH_done (by kernel_rfl) ?_ _
  refine NoPanic.normal ?_
  replace hB := Lib.hid (below_on hB.out hbU5)
  clear hbU1 hbU2 hbU3 hbU4 hbU5
  go_wp2
  go_ret
  exact ⟨rfl, hB.out⟩
theorem law_orientation (x0 y0 z0 u0 x1 y1 z1 u1 x2 y2 z2 u2 : Int) (n0 n1 n2 : Nat) (h0 : n0 ≤ 17592186043904) (h1 : n1 ≤ 17592186043904) (h2 : n2 ≤ 17592186043904) (f0 f1 f2 : Nat → Int) (A0 A1 A2 : Option Addr) (c0 c1 c2 : Nat) (mo pr : Int) (cw : Bool) (w : World) (k0 : Sl w A0 n0 c0 f0) (k1 : Sl w A1 n1 c1 f1) (k2 : Sl w A2 n2 c2 f2) :
    Calls Try.prog 7 #[.agg #[.int .i64 x0, .int .i64 y0, .int .i64 z0, .int .i64 u0, .slice A0 n0 c0, .int .i64 x1, .int .i64 y1, .int .i64 z1, .int .i64 u1, .slice A1 n1 c1, .int .i64 x2, .int .i64 y2, .int .i64 z2, .int .i64 u2, .slice A2 n2 c2, .int .i64 mo, .bool cw, .int .i64 pr]] w fun e w' => e = .returned (.bool true) ∧ Below w.heap.size w w' := by
  cases hkp : keepB (areaI x0 y0 x1 y1 x2 y2) mo cw
  · rcases (show areaI x0 y0 x1 y1 x2 y2 < 0 ∨ 0 ≤ areaI x0 y0 x1 y1 x2 y2 by omega) with hn | hn
    · exact ori_no_swap x0 y0 z0 u0 x1 y1 z1 u1 x2 y2 z2 u2 n0 n1 n2 h0 h1 h2 f0 f1 f2 A0 A1 A2 c0 c1 c2 mo pr cw w k0 k1 k2 hn hkp
    · exact ori_no_keep x0 y0 z0 u0 x1 y1 z1 u1 x2 y2 z2 u2 n0 n1 n2 h0 h1 h2 f0 f1 f2 A0 A1 A2 c0 c1 c2 mo pr cw w k0 k1 k2 hn hkp
  · rcases (show areaI x0 y0 x1 y1 x2 y2 < 0 ∨ 0 ≤ areaI x0 y0 x1 y1 x2 y2 by omega) with hn | hn
    · exact ori_yes_swap x0 y0 z0 u0 x1 y1 z1 u1 x2 y2 z2 u2 n0 n1 n2 h0 h1 h2 f0 f1 f2 A0 A1 A2 c0 c1 c2 mo pr cw w k0 k1 k2 hn hkp
    · exact ori_yes_keep x0 y0 z0 u0 x1 y1 z1 u1 x2 y2 z2 u2 n0 n1 n2 h0 h1 h2 f0 f1 f2 A0 A1 A2 c0 c1 c2 mo pr cw w k0 k1 k2 hn hkp
end Go.Proofs.Ytboffbajmlkhiaa
