/- CullPositive returns true for every corner. -/
import Derived.Test.YtboffbajmlkhiaaSetup
namespace Go.Proofs.Ytboffbajmlkhiaa
open Go.RowKit
set_option linter.unusedVariables false
theorem keep_ne {a m : Int} {c : Bool} (h : keepB a m c = true) : a ≠ 0 := fun e => by subst e; rw [keep_zero] at h; cases h
theorem areaI_swap12 (x0 y0 x1 y1 x2 y2 : Int) : areaI x0 y0 x2 y2 x1 y1 = - areaI x0 y0 x1 y1 x2 y2 := by
  unfold areaI
  have e : inRB x0 y0 x2 y2 x1 y1 = inRB x0 y0 x1 y1 x2 y2 := by unfold inRB; rw [Bool.and_assoc, Bool.and_comm (onS x2 y2), ← Bool.and_assoc]
  rw [e]
  split
  · have h1 := Int.mul_comm (x2 - x0) (y1 - y0)
    have h2 := Int.mul_comm (y2 - y0) (x1 - x0)
    omega
  · rfl
/-- A value built where its guard lets it. -/
theorem wpList_buildG {P : Program} {ops : Array Oper} {rest : List Oper} {o : Oper} {a : Act} {w : World} {Q : Exit → Act → World → Prop} (hw : Region.wanted o (yielded ops a.tmps) = true) (t : TypeId) (parts : Array (Nat × Operand)) (ho : o.op = .build t parts)
    (cells : Array Value) (hb : P.built t (parts.map fun (i, x) => (i, a.eval x)).toList = some cells) (h : wpList P ops Q rest (a.put o.dst (.agg cells)) w) : wpList P ops Q (o :: rest) a w :=
  wpList_step fun K hK => by
    rw [if_pos hw]
    exact wp_build t parts ho (by rw [hb]; rfl) (hK _ _ (by rw [hb]; exact h))
theorem sl_made {W : World} {A : Option Addr} {n c : Nat} {f : Nat → Int} (h : Sl W A n c f) (O : Obj) (cs : Array Value) : Sl ((W.alloc O).setRow W.heap.size cs) A n c f :=
  (h.alloc O).setRowN (sl_lt h) cs
set_option maxRecDepth 100000 in
set_option maxHeartbeats 16000000 in
theorem pos_no (x0 y0 z0 u0 x1 y1 z1 u1 x2 y2 z2 u2 : Int) (n0 n1 n2 : Nat) (h0 : n0 ≤ 17592186043904) (h1 : n1 ≤ 17592186043904) (h2 : n2 ≤ 17592186043904) (f0 f1 f2 : Nat → Int) (A0 A1 A2 : Option Addr) (c0 c1 c2 : Nat) (mo pr : Int) (cw : Bool) (w : World) (k0 : Sl w A0 n0 c0 f0) (k1 : Sl w A1 n1 c1 f1) (k2 : Sl w A2 n2 c2 f2) (hkp : keepB (areaI x0 y0 x1 y1 x2 y2) mo cw = false) :
    Calls Try.prog 8 #[.agg #[.int .i64 x0, .int .i64 y0, .int .i64 z0, .int .i64 u0, .slice A0 n0 c0, .int .i64 x1, .int .i64 y1, .int .i64 z1, .int .i64 u1, .slice A1 n1 c1, .int .i64 x2, .int .i64 y2, .int .i64 z2, .int .i64 u2, .slice A2 n2 c2, .int .i64 mo, .bool cw, .int .i64 pr]] w fun e w' => e = .returned (.bool true) ∧ Below w.heap.size w w' := by
  have hc := Lib.hid (Blk.new w 33 #[.int .i64 x0, .int .i64 y0, .int .i64 z0, .int .i64 u0, .slice A0 n0 c0, .int .i64 x1, .int .i64 y1, .int .i64 z1, .int .i64 u1, .slice A1 n1 c1, .int .i64 x2, .int .i64 y2, .int .i64 z2, .int .i64 u2, .slice A2 n2 c2, .int .i64 mo, .bool cw, .int .i64 pr])
  have hB : Hid (Below w.heap.size w (w.alloc (.cells #[.int .i64 x0, .int .i64 y0, .int .i64 z0, .int .i64 u0, .slice A0 n0 c0, .int .i64 x1, .int .i64 y1, .int .i64 z1, .int .i64 u1, .slice A1 n1 c1, .int .i64 x2, .int .i64 y2, .int .i64 z2, .int .i64 u2, .slice A2 n2 c2, .int .i64 mo, .bool cw, .int .i64 pr] 33))) := Lib.hid (by go_grown)
  replace k0 := Lib.hid (k0.call hB.out)
  replace k1 := Lib.hid (k1.call hB.out)
  replace k2 := Lib.hid (k2.call hB.out)
  replace hkp := Lib.hid hkp
  have hS := Lib.hid (setup_no x0 y0 z0 u0 x1 y1 z1 u1 x2 y2 z2 u2 n0 n1 n2 A0 A1 A2 c0 c1 c2 mo pr cw (w.alloc (.cells #[.int .i64 x0, .int .i64 y0, .int .i64 z0, .int .i64 u0, .slice A0 n0 c0, .int .i64 x1, .int .i64 y1, .int .i64 z1, .int .i64 u1, .slice A1 n1 c1, .int .i64 x2, .int .i64 y2, .int .i64 z2, .int .i64 u2, .slice A2 n2 c2, .int .i64 mo, .bool cw, .int .i64 pr] 33)) hkp.out)
  obtain ⟨a, har⟩ : ∃ a, areaI x0 y0 x1 y1 x2 y2 = a := ⟨_, rfl⟩
  rw [har] at hkp
  replace hS := Lib.hid hS.out
  replace har := Lib.hid har
  go_enter Try.func8, Try.ntmps8
  have cc := hc.out.cell
  go_wp2_with (refine wpList_load_sub rfl 25 _ rfl _ 0 rfl _ _ #[.int .i64 x0, .int .i64 y0, .int .i64 z0, .int .i64 u0, .slice A0 n0 c0, .int .i64 x1, .int .i64 y1, .int .i64 z1, .int .i64 u1, .slice A1 n1 c1, .int .i64 x2, .int .i64 y2, .int .i64 z2, .int .i64 u2, .slice A2 n2 c2] _ _ hc.out rfl Try.underlying25 rfl t3Info ?_)
  refine hS.out.mono ?_
  rintro e W1 ⟨rfl, hb⟩
  clear cc hS
  replace hc := Lib.hid (hc.out.call hb)
  replace k0 := Lib.hid (k0.out.call hb)
  replace k1 := Lib.hid (k1.out.call hb)
  replace k2 := Lib.hid (k2.out.call hb)
  replace hB := Lib.hid (below_on hB.out hb)
  clear hb
  go_upto_region 2 with (refine wpList_store_row rfl 35 _ _ rfl W1.heap.size #[.int .i64 0, .int .i64 0, .int .i64 0, .int .i64 0, .slice none 0 0, .int .i64 0, .int .i64 0, .int .i64 0, .int .i64 0, .slice none 0 0, .int .i64 0, .int .i64 0, .int .i64 0, .int .i64 0, .slice none 0 0, .int .i64 0, .bool false] rfl rfl 35 _ (Blk.new W1 35 #[.int .i64 0, .int .i64 0, .int .i64 0, .int .i64 0, .slice none 0 0, .int .i64 0, .int .i64 0, .int .i64 0, .int .i64 0, .slice none 0 0, .int .i64 0, .int .i64 0, .int .i64 0, .int .i64 0, .slice none 0 0, .int .i64 0, .bool false]) ttInfo rfl (by kernel_rfl) ?_)
  have ht := Lib.hid (Blk.setRow (Blk.new W1 35 #[.int .i64 0, .int .i64 0, .int .i64 0, .int .i64 0, .slice none 0 0, .int .i64 0, .int .i64 0, .int .i64 0, .int .i64 0, .slice none 0 0, .int .i64 0, .int .i64 0, .int .i64 0, .int .i64 0, .slice none 0 0, .int .i64 0, .bool false]) #[.int .i64 0, .int .i64 0, .int .i64 0, .int .i64 0, .slice none 0 0, .int .i64 0, .int .i64 0, .int .i64 0, .int .i64 0, .slice none 0 0, .int .i64 0, .int .i64 0, .int .i64 0, .int .i64 0, .slice none 0 0, .int .i64 0, .bool false])
  replace hc := Lib.hid ((hc.out.alloc (.cells #[.int .i64 0, .int .i64 0, .int .i64 0, .int .i64 0, .slice none 0 0, .int .i64 0, .int .i64 0, .int .i64 0, .int .i64 0, .slice none 0 0, .int .i64 0, .int .i64 0, .int .i64 0, .int .i64 0, .slice none 0 0, .int .i64 0, .bool false] 35)).farRow (Nat.ne_of_lt hc.out.lt) #[.int .i64 0, .int .i64 0, .int .i64 0, .int .i64 0, .slice none 0 0, .int .i64 0, .int .i64 0, .int .i64 0, .int .i64 0, .slice none 0 0, .int .i64 0, .int .i64 0, .int .i64 0, .int .i64 0, .slice none 0 0, .int .i64 0, .bool false])
  replace k0 := Lib.hid (sl_made k0.out (.cells #[.int .i64 0, .int .i64 0, .int .i64 0, .int .i64 0, .slice none 0 0, .int .i64 0, .int .i64 0, .int .i64 0, .int .i64 0, .slice none 0 0, .int .i64 0, .int .i64 0, .int .i64 0, .int .i64 0, .slice none 0 0, .int .i64 0, .bool false] 35) #[.int .i64 0, .int .i64 0, .int .i64 0, .int .i64 0, .slice none 0 0, .int .i64 0, .int .i64 0, .int .i64 0, .int .i64 0, .slice none 0 0, .int .i64 0, .int .i64 0, .int .i64 0, .int .i64 0, .slice none 0 0, .int .i64 0, .bool false])
  replace k1 := Lib.hid (sl_made k1.out (.cells #[.int .i64 0, .int .i64 0, .int .i64 0, .int .i64 0, .slice none 0 0, .int .i64 0, .int .i64 0, .int .i64 0, .int .i64 0, .slice none 0 0, .int .i64 0, .int .i64 0, .int .i64 0, .int .i64 0, .slice none 0 0, .int .i64 0, .bool false] 35) #[.int .i64 0, .int .i64 0, .int .i64 0, .int .i64 0, .slice none 0 0, .int .i64 0, .int .i64 0, .int .i64 0, .int .i64 0, .slice none 0 0, .int .i64 0, .int .i64 0, .int .i64 0, .int .i64 0, .slice none 0 0, .int .i64 0, .bool false])
  replace k2 := Lib.hid (sl_made k2.out (.cells #[.int .i64 0, .int .i64 0, .int .i64 0, .int .i64 0, .slice none 0 0, .int .i64 0, .int .i64 0, .int .i64 0, .int .i64 0, .slice none 0 0, .int .i64 0, .int .i64 0, .int .i64 0, .int .i64 0, .slice none 0 0, .int .i64 0, .bool false] 35) #[.int .i64 0, .int .i64 0, .int .i64 0, .int .i64 0, .slice none 0 0, .int .i64 0, .int .i64 0, .int .i64 0, .int .i64 0, .slice none 0 0, .int .i64 0, .int .i64 0, .int .i64 0, .int .i64 0, .slice none 0 0, .int .i64 0, .bool false])
  replace hB := Lib.hid (below_setRow (hB.out.alloc hB.out.size (.cells #[.int .i64 0, .int .i64 0, .int .i64 0, .int .i64 0, .slice none 0 0, .int .i64 0, .int .i64 0, .int .i64 0, .int .i64 0, .slice none 0 0, .int .i64 0, .int .i64 0, .int .i64 0, .int .i64 0, .slice none 0 0, .int .i64 0, .bool false] 35)) hB.out.size #[.int .i64 0, .int .i64 0, .int .i64 0, .int .i64 0, .slice none 0 0, .int .i64 0, .int .i64 0, .int .i64 0, .int .i64 0, .slice none 0 0, .int .i64 0, .int .i64 0, .int .i64 0, .int .i64 0, .slice none 0 0, .int .i64 0, .bool false])
  generalize (W1.alloc (.cells #[.int .i64 0, .int .i64 0, .int .i64 0, .int .i64 0, .slice none 0 0, .int .i64 0, .int .i64 0, .int .i64 0, .int .i64 0, .slice none 0 0, .int .i64 0, .int .i64 0, .int .i64 0, .int .i64 0, .slice none 0 0, .int .i64 0, .bool false] 35)).setRow W1.heap.size #[.int .i64 0, .int .i64 0, .int .i64 0, .int .i64 0, .slice none 0 0, .int .i64 0, .int .i64 0, .int .i64 0, .int .i64 0, .slice none 0 0, .int .i64 0, .int .i64 0, .int .i64 0, .int .i64 0, .slice none 0 0, .int .i64 0, .bool false] = X at *
  have cc := hc.out.cell
  go_wp2_with (refine wpList_load_sub rfl 25 _ rfl _ 0 rfl _ _ #[.int .i64 x0, .int .i64 y0, .int .i64 z0, .int .i64 u0, .slice A0 n0 c0, .int .i64 x1, .int .i64 y1, .int .i64 z1, .int .i64 u1, .slice A1 n1 c1, .int .i64 x2, .int .i64 y2, .int .i64 z2, .int .i64 u2, .slice A2 n2 c2] _ _ hc.out rfl Try.underlying25 rfl t3Info ?_)
  refine (area_at _ _ _ _ _ _ _ _ _ _ _ _ _ _ _ _ _ _ _ _ _ _ _ har.out).mono ?_
  rintro e V1 ⟨rfl, hb⟩
  clear cc
  replace hc := Lib.hid (hc.out.call hb)
  replace ht := Lib.hid (ht.out.call hb)
  replace hB := Lib.hid (below_on hB.out hb)
  clear hb
  have cc := hc.out.cell
  go_wp2_with fail
  refine (keep_at _ _ _ _ _ hkp.out).mono ?_
  rintro e xw ⟨rfl, rfl⟩
  go_wp2_with (first | refine wpList_load_rowG rfl 35 _ rfl _ rfl _ _ _ _ ht.out Try.underlying35 rfl ttInfo ?_ | (refine wpList_buildG rfl 35 _ rfl #[.int .i64 0, .int .i64 0, .int .i64 0, .int .i64 0, .slice none 0 0, .int .i64 0, .int .i64 0, .int .i64 0, .int .i64 0, .slice none 0 0, .int .i64 0, .int .i64 0, .int .i64 0, .int .i64 0, .slice none 0 0, .int .i64 0, .bool false] (by kernel_rfl) ?_))
  refine (sameTriangle_sl 0 0 0 0 0 0 0 0 0 0 0 0 0 0 0 (Nat.zero_le _) (Nat.zero_le _) (Nat.zero_le _) (fun _ => 0) (fun _ => 0) (fun _ => 0) none none none none none none 0 0 0 0 0 0 0 false _ (Sl.none _ _) (Sl.none _ _) (Sl.none _ _) (Sl.none _ _) (Sl.none _ _) (Sl.none _ _)).mono ?_
  rintro e V2 ⟨rfl, hb⟩
  clear cc
  replace hc := Lib.hid (hc.out.call hb)
  replace ht := Lib.hid (ht.out.call hb)
  replace hB := Lib.hid (below_on hB.out hb)
  clear hb
  go_wp2_with fail
  refine (example_true _).mono ?_
  rintro e V9 ⟨rfl, hb⟩
  replace hB := Lib.hid (below_on hB.out hb)
  clear hb
  go_wp2
  go_ret
  exact ⟨rfl, hB.out⟩
set_option maxRecDepth 100000 in
set_option maxHeartbeats 16000000 in
theorem pos_keep (x0 y0 z0 u0 x1 y1 z1 u1 x2 y2 z2 u2 : Int) (n0 n1 n2 : Nat) (h0 : n0 ≤ 17592186043904) (h1 : n1 ≤ 17592186043904) (h2 : n2 ≤ 17592186043904) (f0 f1 f2 : Nat → Int) (A0 A1 A2 : Option Addr) (c0 c1 c2 : Nat) (mo pr : Int) (cw : Bool) (w : World) (k0 : Sl w A0 n0 c0 f0) (k1 : Sl w A1 n1 c1 f1) (k2 : Sl w A2 n2 c2 f2) (hn : 0 ≤ areaI x0 y0 x1 y1 x2 y2) (hkp : keepB (areaI x0 y0 x1 y1 x2 y2) mo cw = true) :
    Calls Try.prog 8 #[.agg #[.int .i64 x0, .int .i64 y0, .int .i64 z0, .int .i64 u0, .slice A0 n0 c0, .int .i64 x1, .int .i64 y1, .int .i64 z1, .int .i64 u1, .slice A1 n1 c1, .int .i64 x2, .int .i64 y2, .int .i64 z2, .int .i64 u2, .slice A2 n2 c2, .int .i64 mo, .bool cw, .int .i64 pr]] w fun e w' => e = .returned (.bool true) ∧ Below w.heap.size w w' := by
  have hne := keep_ne hkp
  have hfb := keep_back hne cw
  obtain ⟨p1, p2⟩ := areaI_bound x0 y0 x1 y1 x2 y2
  have hc := Lib.hid (Blk.new w 33 #[.int .i64 x0, .int .i64 y0, .int .i64 z0, .int .i64 u0, .slice A0 n0 c0, .int .i64 x1, .int .i64 y1, .int .i64 z1, .int .i64 u1, .slice A1 n1 c1, .int .i64 x2, .int .i64 y2, .int .i64 z2, .int .i64 u2, .slice A2 n2 c2, .int .i64 mo, .bool cw, .int .i64 pr])
  have hB : Hid (Below w.heap.size w (w.alloc (.cells #[.int .i64 x0, .int .i64 y0, .int .i64 z0, .int .i64 u0, .slice A0 n0 c0, .int .i64 x1, .int .i64 y1, .int .i64 z1, .int .i64 u1, .slice A1 n1 c1, .int .i64 x2, .int .i64 y2, .int .i64 z2, .int .i64 u2, .slice A2 n2 c2, .int .i64 mo, .bool cw, .int .i64 pr] 33))) := Lib.hid (by go_grown)
  replace k0 := Lib.hid (k0.call hB.out)
  replace k1 := Lib.hid (k1.call hB.out)
  replace k2 := Lib.hid (k2.call hB.out)
  have hn0 := hn
  replace hn := Lib.hid hn
  replace hkp := Lib.hid hkp
  have hS := Lib.hid (setup_keep x0 y0 z0 u0 x1 y1 z1 u1 x2 y2 z2 u2 n0 n1 n2 h0 h1 h2 f0 f1 f2 A0 A1 A2 c0 c1 c2 mo pr cw (w.alloc (.cells #[.int .i64 x0, .int .i64 y0, .int .i64 z0, .int .i64 u0, .slice A0 n0 c0, .int .i64 x1, .int .i64 y1, .int .i64 z1, .int .i64 u1, .slice A1 n1 c1, .int .i64 x2, .int .i64 y2, .int .i64 z2, .int .i64 u2, .slice A2 n2 c2, .int .i64 mo, .bool cw, .int .i64 pr] 33)) k0.out k1.out k2.out hn.out hkp.out)
  obtain ⟨a, har⟩ : ∃ a, areaI x0 y0 x1 y1 x2 y2 = a := ⟨_, rfl⟩
  obtain ⟨fr, hfr⟩ : ∃ b, frontB a cw = b := ⟨_, rfl⟩
  rw [har, hfr] at hS hfb
  rw [har] at hn0 hne p1 p2
  replace hfr := Lib.hid hfr
  replace hfb := Lib.hid hfb
  clear hn hkp
  have hp : 0 < a := by omega
  have hneg : IntKind.i64.wrap (-a) = -a := by rw [IntKind.wrap_i64]; omega
  clear hne hn0
  replace hS := Lib.hid hS.out
  replace har := Lib.hid har
  go_enter Try.func8, Try.ntmps8
  have cc := hc.out.cell
  go_wp2_with (refine wpList_load_sub rfl 25 _ rfl _ 0 rfl _ _ #[.int .i64 x0, .int .i64 y0, .int .i64 z0, .int .i64 u0, .slice A0 n0 c0, .int .i64 x1, .int .i64 y1, .int .i64 z1, .int .i64 u1, .slice A1 n1 c1, .int .i64 x2, .int .i64 y2, .int .i64 z2, .int .i64 u2, .slice A2 n2 c2] _ _ hc.out rfl Try.underlying25 rfl t3Info ?_)
  refine hS.out.mono ?_
  rintro e W1 ⟨hb, B0, B1, B2, d0, d1, d2, rfl, s0, s1, s2⟩
  clear cc hS
  replace hc := Lib.hid (hc.out.call hb)
  replace k0 := Lib.hid (k0.out.call hb)
  replace k1 := Lib.hid (k1.out.call hb)
  replace k2 := Lib.hid (k2.out.call hb)
  replace hB := Lib.hid (below_on hB.out hb)
  clear hb
  go_upto_region 2 with (refine wpList_store_row rfl 35 _ _ rfl W1.heap.size #[.int .i64 x0, .int .i64 y0, .int .i64 z0, .int .i64 u0, .slice B0 n0 d0, .int .i64 x1, .int .i64 y1, .int .i64 z1, .int .i64 u1, .slice B1 n1 d1, .int .i64 x2, .int .i64 y2, .int .i64 z2, .int .i64 u2, .slice B2 n2 d2, .int .i64 pr, .bool fr] rfl rfl 35 _ (Blk.new W1 35 #[.int .i64 0, .int .i64 0, .int .i64 0, .int .i64 0, .slice none 0 0, .int .i64 0, .int .i64 0, .int .i64 0, .int .i64 0, .slice none 0 0, .int .i64 0, .int .i64 0, .int .i64 0, .int .i64 0, .slice none 0 0, .int .i64 0, .bool false]) ttInfo rfl (by kernel_rfl) ?_)
  have ht := Lib.hid (Blk.setRow (Blk.new W1 35 #[.int .i64 0, .int .i64 0, .int .i64 0, .int .i64 0, .slice none 0 0, .int .i64 0, .int .i64 0, .int .i64 0, .int .i64 0, .slice none 0 0, .int .i64 0, .int .i64 0, .int .i64 0, .int .i64 0, .slice none 0 0, .int .i64 0, .bool false]) #[.int .i64 x0, .int .i64 y0, .int .i64 z0, .int .i64 u0, .slice B0 n0 d0, .int .i64 x1, .int .i64 y1, .int .i64 z1, .int .i64 u1, .slice B1 n1 d1, .int .i64 x2, .int .i64 y2, .int .i64 z2, .int .i64 u2, .slice B2 n2 d2, .int .i64 pr, .bool fr])
  replace hc := Lib.hid ((hc.out.alloc (.cells #[.int .i64 0, .int .i64 0, .int .i64 0, .int .i64 0, .slice none 0 0, .int .i64 0, .int .i64 0, .int .i64 0, .int .i64 0, .slice none 0 0, .int .i64 0, .int .i64 0, .int .i64 0, .int .i64 0, .slice none 0 0, .int .i64 0, .bool false] 35)).farRow (Nat.ne_of_lt hc.out.lt) #[.int .i64 x0, .int .i64 y0, .int .i64 z0, .int .i64 u0, .slice B0 n0 d0, .int .i64 x1, .int .i64 y1, .int .i64 z1, .int .i64 u1, .slice B1 n1 d1, .int .i64 x2, .int .i64 y2, .int .i64 z2, .int .i64 u2, .slice B2 n2 d2, .int .i64 pr, .bool fr])
  replace k0 := Lib.hid (sl_made k0.out (.cells #[.int .i64 0, .int .i64 0, .int .i64 0, .int .i64 0, .slice none 0 0, .int .i64 0, .int .i64 0, .int .i64 0, .int .i64 0, .slice none 0 0, .int .i64 0, .int .i64 0, .int .i64 0, .int .i64 0, .slice none 0 0, .int .i64 0, .bool false] 35) #[.int .i64 x0, .int .i64 y0, .int .i64 z0, .int .i64 u0, .slice B0 n0 d0, .int .i64 x1, .int .i64 y1, .int .i64 z1, .int .i64 u1, .slice B1 n1 d1, .int .i64 x2, .int .i64 y2, .int .i64 z2, .int .i64 u2, .slice B2 n2 d2, .int .i64 pr, .bool fr])
  replace k1 := Lib.hid (sl_made k1.out (.cells #[.int .i64 0, .int .i64 0, .int .i64 0, .int .i64 0, .slice none 0 0, .int .i64 0, .int .i64 0, .int .i64 0, .int .i64 0, .slice none 0 0, .int .i64 0, .int .i64 0, .int .i64 0, .int .i64 0, .slice none 0 0, .int .i64 0, .bool false] 35) #[.int .i64 x0, .int .i64 y0, .int .i64 z0, .int .i64 u0, .slice B0 n0 d0, .int .i64 x1, .int .i64 y1, .int .i64 z1, .int .i64 u1, .slice B1 n1 d1, .int .i64 x2, .int .i64 y2, .int .i64 z2, .int .i64 u2, .slice B2 n2 d2, .int .i64 pr, .bool fr])
  replace k2 := Lib.hid (sl_made k2.out (.cells #[.int .i64 0, .int .i64 0, .int .i64 0, .int .i64 0, .slice none 0 0, .int .i64 0, .int .i64 0, .int .i64 0, .int .i64 0, .slice none 0 0, .int .i64 0, .int .i64 0, .int .i64 0, .int .i64 0, .slice none 0 0, .int .i64 0, .bool false] 35) #[.int .i64 x0, .int .i64 y0, .int .i64 z0, .int .i64 u0, .slice B0 n0 d0, .int .i64 x1, .int .i64 y1, .int .i64 z1, .int .i64 u1, .slice B1 n1 d1, .int .i64 x2, .int .i64 y2, .int .i64 z2, .int .i64 u2, .slice B2 n2 d2, .int .i64 pr, .bool fr])
  replace s0 := Lib.hid (sl_made s0 (.cells #[.int .i64 0, .int .i64 0, .int .i64 0, .int .i64 0, .slice none 0 0, .int .i64 0, .int .i64 0, .int .i64 0, .int .i64 0, .slice none 0 0, .int .i64 0, .int .i64 0, .int .i64 0, .int .i64 0, .slice none 0 0, .int .i64 0, .bool false] 35) #[.int .i64 x0, .int .i64 y0, .int .i64 z0, .int .i64 u0, .slice B0 n0 d0, .int .i64 x1, .int .i64 y1, .int .i64 z1, .int .i64 u1, .slice B1 n1 d1, .int .i64 x2, .int .i64 y2, .int .i64 z2, .int .i64 u2, .slice B2 n2 d2, .int .i64 pr, .bool fr])
  replace s1 := Lib.hid (sl_made s1 (.cells #[.int .i64 0, .int .i64 0, .int .i64 0, .int .i64 0, .slice none 0 0, .int .i64 0, .int .i64 0, .int .i64 0, .int .i64 0, .slice none 0 0, .int .i64 0, .int .i64 0, .int .i64 0, .int .i64 0, .slice none 0 0, .int .i64 0, .bool false] 35) #[.int .i64 x0, .int .i64 y0, .int .i64 z0, .int .i64 u0, .slice B0 n0 d0, .int .i64 x1, .int .i64 y1, .int .i64 z1, .int .i64 u1, .slice B1 n1 d1, .int .i64 x2, .int .i64 y2, .int .i64 z2, .int .i64 u2, .slice B2 n2 d2, .int .i64 pr, .bool fr])
  replace s2 := Lib.hid (sl_made s2 (.cells #[.int .i64 0, .int .i64 0, .int .i64 0, .int .i64 0, .slice none 0 0, .int .i64 0, .int .i64 0, .int .i64 0, .int .i64 0, .slice none 0 0, .int .i64 0, .int .i64 0, .int .i64 0, .int .i64 0, .slice none 0 0, .int .i64 0, .bool false] 35) #[.int .i64 x0, .int .i64 y0, .int .i64 z0, .int .i64 u0, .slice B0 n0 d0, .int .i64 x1, .int .i64 y1, .int .i64 z1, .int .i64 u1, .slice B1 n1 d1, .int .i64 x2, .int .i64 y2, .int .i64 z2, .int .i64 u2, .slice B2 n2 d2, .int .i64 pr, .bool fr])
  replace hB := Lib.hid (below_setRow (hB.out.alloc hB.out.size (.cells #[.int .i64 0, .int .i64 0, .int .i64 0, .int .i64 0, .slice none 0 0, .int .i64 0, .int .i64 0, .int .i64 0, .int .i64 0, .slice none 0 0, .int .i64 0, .int .i64 0, .int .i64 0, .int .i64 0, .slice none 0 0, .int .i64 0, .bool false] 35)) hB.out.size #[.int .i64 x0, .int .i64 y0, .int .i64 z0, .int .i64 u0, .slice B0 n0 d0, .int .i64 x1, .int .i64 y1, .int .i64 z1, .int .i64 u1, .slice B1 n1 d1, .int .i64 x2, .int .i64 y2, .int .i64 z2, .int .i64 u2, .slice B2 n2 d2, .int .i64 pr, .bool fr])
  generalize (W1.alloc (.cells #[.int .i64 0, .int .i64 0, .int .i64 0, .int .i64 0, .slice none 0 0, .int .i64 0, .int .i64 0, .int .i64 0, .int .i64 0, .slice none 0 0, .int .i64 0, .int .i64 0, .int .i64 0, .int .i64 0, .slice none 0 0, .int .i64 0, .bool false] 35)).setRow W1.heap.size #[.int .i64 x0, .int .i64 y0, .int .i64 z0, .int .i64 u0, .slice B0 n0 d0, .int .i64 x1, .int .i64 y1, .int .i64 z1, .int .i64 u1, .slice B1 n1 d1, .int .i64 x2, .int .i64 y2, .int .i64 z2, .int .i64 u2, .slice B2 n2 d2, .int .i64 pr, .bool fr] = X at *
  have cc := hc.out.cell
  go_wp2_with (refine wpList_load_sub rfl 25 _ rfl _ 0 rfl _ _ #[.int .i64 x0, .int .i64 y0, .int .i64 z0, .int .i64 u0, .slice A0 n0 c0, .int .i64 x1, .int .i64 y1, .int .i64 z1, .int .i64 u1, .slice A1 n1 c1, .int .i64 x2, .int .i64 y2, .int .i64 z2, .int .i64 u2, .slice A2 n2 c2] _ _ hc.out rfl Try.underlying25 rfl t3Info ?_)
  refine (area_at _ _ _ _ _ _ _ _ _ _ _ _ _ _ _ _ _ _ _ _ _ _ _ har.out).mono ?_
  rintro e V1 ⟨rfl, hb⟩
  clear cc
  replace hc := Lib.hid (hc.out.call hb)
  replace ht := Lib.hid (ht.out.call hb)
  replace hB := Lib.hid (below_on hB.out hb)
  replace s0 := Lib.hid (s0.out.call hb)
  replace k0 := Lib.hid (k0.out.call hb)
  clear hb
  have cc := hc.out.cell
  go_wp2_with fail
  refine (keep_at _ _ _ _ _ hfb.out).mono ?_
  rintro e xw ⟨rfl, rfl⟩
  have ct := ht.out.cell
  go_wp2_with (first | refine wpList_load_sub rfl 25 _ rfl _ 0 rfl _ _ #[.int .i64 x0, .int .i64 y0, .int .i64 z0, .int .i64 u0, .slice B0 n0 d0, .int .i64 x1, .int .i64 y1, .int .i64 z1, .int .i64 u1, .slice B1 n1 d1, .int .i64 x2, .int .i64 y2, .int .i64 z2, .int .i64 u2, .slice B2 n2 d2] _ _ ht.out rfl Try.underlying25 rfl t3Info ?_ | refine wpList_load_subG rfl 25 _ rfl _ 0 rfl _ _ #[.int .i64 x0, .int .i64 y0, .int .i64 z0, .int .i64 u0, .slice B0 n0 d0, .int .i64 x1, .int .i64 y1, .int .i64 z1, .int .i64 u1, .slice B1 n1 d1, .int .i64 x2, .int .i64 y2, .int .i64 z2, .int .i64 u2, .slice B2 n2 d2] _ _ ht.out rfl Try.underlying25 rfl t3Info ?_)
  refine (area_at x0 y0 z0 u0 x1 y1 z1 u1 x2 y2 z2 u2 B0 B1 B2 n0 d0 n1 d1 n2 d2 _ _ har.out).mono ?_
  rintro e V2 ⟨rfl, hb⟩
  clear cc ct
  replace hc := Lib.hid (hc.out.call hb)
  replace ht := Lib.hid (ht.out.call hb)
  replace hB := Lib.hid (below_on hB.out hb)
  replace s0 := Lib.hid (s0.out.call hb)
  replace k0 := Lib.hid (k0.out.call hb)
  clear hb
  have cc := hc.out.cell
  have ct := ht.out.cell
  go_wp2_with (first | refine wpList_load_sub rfl 25 _ rfl _ 0 rfl _ _ #[.int .i64 x0, .int .i64 y0, .int .i64 z0, .int .i64 u0, .slice B0 n0 d0, .int .i64 x1, .int .i64 y1, .int .i64 z1, .int .i64 u1, .slice B1 n1 d1, .int .i64 x2, .int .i64 y2, .int .i64 z2, .int .i64 u2, .slice B2 n2 d2] _ _ ht.out rfl Try.underlying25 rfl t3Info ?_ | refine wpList_load_subG rfl 25 _ rfl _ 0 rfl _ _ #[.int .i64 x0, .int .i64 y0, .int .i64 z0, .int .i64 u0, .slice B0 n0 d0, .int .i64 x1, .int .i64 y1, .int .i64 z1, .int .i64 u1, .slice B1 n1 d1, .int .i64 x2, .int .i64 y2, .int .i64 z2, .int .i64 u2, .slice B2 n2 d2] _ _ ht.out rfl Try.underlying25 rfl t3Info ?_)
  refine (area_at x0 y0 z0 u0 x1 y1 z1 u1 x2 y2 z2 u2 B0 B1 B2 n0 d0 n1 d1 n2 d2 _ _ har.out).mono ?_
  rintro e V3 ⟨rfl, hb⟩
  clear cc ct
  replace hc := Lib.hid (hc.out.call hb)
  replace ht := Lib.hid (ht.out.call hb)
  replace hB := Lib.hid (below_on hB.out hb)
  replace s0 := Lib.hid (s0.out.call hb)
  replace k0 := Lib.hid (k0.out.call hb)
  clear hb
  have cc := hc.out.cell
  have ct := ht.out.cell
  go_wp2_with (first | refine wpList_load_subG rfl 24 _ rfl _ 0 rfl _ _ #[.int .i64 x0, .int .i64 y0, .int .i64 z0, .int .i64 u0, .slice B0 n0 d0] _ _ ht.out rfl Try.underlying24 rfl vInfo ?_ | refine wpList_load_subG rfl 24 _ rfl _ 0 rfl _ _ #[.int .i64 x0, .int .i64 y0, .int .i64 z0, .int .i64 u0, .slice A0 n0 c0] _ _ hc.out rfl Try.underlying24 rfl vInfo ?_)
  refine (sameVertex_at x0 y0 z0 u0 n0 h0 f0 B0 A0 d0 c0 _ s0.out k0.out).mono ?_
  rintro e V4 ⟨rfl, hb⟩
  clear cc ct
  replace hc := Lib.hid (hc.out.call hb)
  replace ht := Lib.hid (ht.out.call hb)
  replace hB := Lib.hid (below_on hB.out hb)
  replace s0 := Lib.hid (s0.out.call hb)
  replace k0 := Lib.hid (k0.out.call hb)
  clear hb
  have cc := hc.out.cell
  have ct := ht.out.cell
  go_wp2_with fail
  refine (example_true _).mono ?_
  rintro e V9 ⟨rfl, hb⟩
  replace hB := Lib.hid (below_on hB.out hb)
  clear hb
  go_wp2
  go_ret
  exact ⟨rfl, hB.out⟩
set_option maxRecDepth 100000 in
set_option maxHeartbeats 16000000 in
theorem pos_swap (x0 y0 z0 u0 x1 y1 z1 u1 x2 y2 z2 u2 : Int) (n0 n1 n2 : Nat) (h0 : n0 ≤ 17592186043904) (h1 : n1 ≤ 17592186043904) (h2 : n2 ≤ 17592186043904) (f0 f1 f2 : Nat → Int) (A0 A1 A2 : Option Addr) (c0 c1 c2 : Nat) (mo pr : Int) (cw : Bool) (w : World) (k0 : Sl w A0 n0 c0 f0) (k1 : Sl w A1 n1 c1 f1) (k2 : Sl w A2 n2 c2 f2) (hn : areaI x0 y0 x1 y1 x2 y2 < 0) (hkp : keepB (areaI x0 y0 x1 y1 x2 y2) mo cw = true) :
    Calls Try.prog 8 #[.agg #[.int .i64 x0, .int .i64 y0, .int .i64 z0, .int .i64 u0, .slice A0 n0 c0, .int .i64 x1, .int .i64 y1, .int .i64 z1, .int .i64 u1, .slice A1 n1 c1, .int .i64 x2, .int .i64 y2, .int .i64 z2, .int .i64 u2, .slice A2 n2 c2, .int .i64 mo, .bool cw, .int .i64 pr]] w fun e w' => e = .returned (.bool true) ∧ Below w.heap.size w w' := by
  have hne := keep_ne hkp
  have hfb := keep_back hne cw
  obtain ⟨p1, p2⟩ := areaI_bound x0 y0 x1 y1 x2 y2
  have hsw := areaI_swap12 x0 y0 x1 y1 x2 y2
  have hc := Lib.hid (Blk.new w 33 #[.int .i64 x0, .int .i64 y0, .int .i64 z0, .int .i64 u0, .slice A0 n0 c0, .int .i64 x1, .int .i64 y1, .int .i64 z1, .int .i64 u1, .slice A1 n1 c1, .int .i64 x2, .int .i64 y2, .int .i64 z2, .int .i64 u2, .slice A2 n2 c2, .int .i64 mo, .bool cw, .int .i64 pr])
  have hB : Hid (Below w.heap.size w (w.alloc (.cells #[.int .i64 x0, .int .i64 y0, .int .i64 z0, .int .i64 u0, .slice A0 n0 c0, .int .i64 x1, .int .i64 y1, .int .i64 z1, .int .i64 u1, .slice A1 n1 c1, .int .i64 x2, .int .i64 y2, .int .i64 z2, .int .i64 u2, .slice A2 n2 c2, .int .i64 mo, .bool cw, .int .i64 pr] 33))) := Lib.hid (by go_grown)
  replace k0 := Lib.hid (k0.call hB.out)
  replace k1 := Lib.hid (k1.call hB.out)
  replace k2 := Lib.hid (k2.call hB.out)
  have hn0 := hn
  replace hn := Lib.hid hn
  replace hkp := Lib.hid hkp
  have hS := Lib.hid (setup_swap x0 y0 z0 u0 x1 y1 z1 u1 x2 y2 z2 u2 n0 n1 n2 h0 h1 h2 f0 f1 f2 A0 A1 A2 c0 c1 c2 mo pr cw (w.alloc (.cells #[.int .i64 x0, .int .i64 y0, .int .i64 z0, .int .i64 u0, .slice A0 n0 c0, .int .i64 x1, .int .i64 y1, .int .i64 z1, .int .i64 u1, .slice A1 n1 c1, .int .i64 x2, .int .i64 y2, .int .i64 z2, .int .i64 u2, .slice A2 n2 c2, .int .i64 mo, .bool cw, .int .i64 pr] 33)) k0.out k1.out k2.out hn.out hkp.out)
  obtain ⟨a, har⟩ : ∃ a, areaI x0 y0 x1 y1 x2 y2 = a := ⟨_, rfl⟩
  obtain ⟨fr, hfr⟩ : ∃ b, frontB a cw = b := ⟨_, rfl⟩
  rw [har, hfr] at hS hfb
  rw [har] at hn0 hne p1 p2
  rw [har] at hsw
  replace hsw := Lib.hid hsw
  replace hfr := Lib.hid hfr
  replace hfb := Lib.hid hfb
  clear hn hkp
  obtain ⟨b, hb0⟩ : ∃ b, -a = b := ⟨_, rfl⟩
  have hp : 0 < b := by omega
  obtain rfl : a = -b := by omega
  clear hb0
  have hneg : IntKind.i64.wrap (-(-b)) = b := by rw [IntKind.wrap_i64]; omega
  clear hne hn0
  replace hS := Lib.hid hS.out
  replace har := Lib.hid har
  go_enter Try.func8, Try.ntmps8
  have cc := hc.out.cell
  go_wp2_with (refine wpList_load_sub rfl 25 _ rfl _ 0 rfl _ _ #[.int .i64 x0, .int .i64 y0, .int .i64 z0, .int .i64 u0, .slice A0 n0 c0, .int .i64 x1, .int .i64 y1, .int .i64 z1, .int .i64 u1, .slice A1 n1 c1, .int .i64 x2, .int .i64 y2, .int .i64 z2, .int .i64 u2, .slice A2 n2 c2] _ _ hc.out rfl Try.underlying25 rfl t3Info ?_)
  refine hS.out.mono ?_
  rintro e W1 ⟨hb, B0, B1, B2, d0, d1, d2, rfl, s0, s1, s2⟩
  clear cc hS
  replace hc := Lib.hid (hc.out.call hb)
  replace k0 := Lib.hid (k0.out.call hb)
  replace k1 := Lib.hid (k1.out.call hb)
  replace k2 := Lib.hid (k2.out.call hb)
  replace hB := Lib.hid (below_on hB.out hb)
  clear hb
  go_upto_region 2 with (refine wpList_store_row rfl 35 _ _ rfl W1.heap.size #[.int .i64 x0, .int .i64 y0, .int .i64 z0, .int .i64 u0, .slice B0 n0 d0, .int .i64 x2, .int .i64 y2, .int .i64 z2, .int .i64 u2, .slice B2 n2 d2, .int .i64 x1, .int .i64 y1, .int .i64 z1, .int .i64 u1, .slice B1 n1 d1, .int .i64 pr, .bool fr] rfl rfl 35 _ (Blk.new W1 35 #[.int .i64 0, .int .i64 0, .int .i64 0, .int .i64 0, .slice none 0 0, .int .i64 0, .int .i64 0, .int .i64 0, .int .i64 0, .slice none 0 0, .int .i64 0, .int .i64 0, .int .i64 0, .int .i64 0, .slice none 0 0, .int .i64 0, .bool false]) ttInfo rfl (by kernel_rfl) ?_)
  have ht := Lib.hid (Blk.setRow (Blk.new W1 35 #[.int .i64 0, .int .i64 0, .int .i64 0, .int .i64 0, .slice none 0 0, .int .i64 0, .int .i64 0, .int .i64 0, .int .i64 0, .slice none 0 0, .int .i64 0, .int .i64 0, .int .i64 0, .int .i64 0, .slice none 0 0, .int .i64 0, .bool false]) #[.int .i64 x0, .int .i64 y0, .int .i64 z0, .int .i64 u0, .slice B0 n0 d0, .int .i64 x2, .int .i64 y2, .int .i64 z2, .int .i64 u2, .slice B2 n2 d2, .int .i64 x1, .int .i64 y1, .int .i64 z1, .int .i64 u1, .slice B1 n1 d1, .int .i64 pr, .bool fr])
  replace hc := Lib.hid ((hc.out.alloc (.cells #[.int .i64 0, .int .i64 0, .int .i64 0, .int .i64 0, .slice none 0 0, .int .i64 0, .int .i64 0, .int .i64 0, .int .i64 0, .slice none 0 0, .int .i64 0, .int .i64 0, .int .i64 0, .int .i64 0, .slice none 0 0, .int .i64 0, .bool false] 35)).farRow (Nat.ne_of_lt hc.out.lt) #[.int .i64 x0, .int .i64 y0, .int .i64 z0, .int .i64 u0, .slice B0 n0 d0, .int .i64 x2, .int .i64 y2, .int .i64 z2, .int .i64 u2, .slice B2 n2 d2, .int .i64 x1, .int .i64 y1, .int .i64 z1, .int .i64 u1, .slice B1 n1 d1, .int .i64 pr, .bool fr])
  replace k0 := Lib.hid (sl_made k0.out (.cells #[.int .i64 0, .int .i64 0, .int .i64 0, .int .i64 0, .slice none 0 0, .int .i64 0, .int .i64 0, .int .i64 0, .int .i64 0, .slice none 0 0, .int .i64 0, .int .i64 0, .int .i64 0, .int .i64 0, .slice none 0 0, .int .i64 0, .bool false] 35) #[.int .i64 x0, .int .i64 y0, .int .i64 z0, .int .i64 u0, .slice B0 n0 d0, .int .i64 x2, .int .i64 y2, .int .i64 z2, .int .i64 u2, .slice B2 n2 d2, .int .i64 x1, .int .i64 y1, .int .i64 z1, .int .i64 u1, .slice B1 n1 d1, .int .i64 pr, .bool fr])
  replace k1 := Lib.hid (sl_made k1.out (.cells #[.int .i64 0, .int .i64 0, .int .i64 0, .int .i64 0, .slice none 0 0, .int .i64 0, .int .i64 0, .int .i64 0, .int .i64 0, .slice none 0 0, .int .i64 0, .int .i64 0, .int .i64 0, .int .i64 0, .slice none 0 0, .int .i64 0, .bool false] 35) #[.int .i64 x0, .int .i64 y0, .int .i64 z0, .int .i64 u0, .slice B0 n0 d0, .int .i64 x2, .int .i64 y2, .int .i64 z2, .int .i64 u2, .slice B2 n2 d2, .int .i64 x1, .int .i64 y1, .int .i64 z1, .int .i64 u1, .slice B1 n1 d1, .int .i64 pr, .bool fr])
  replace k2 := Lib.hid (sl_made k2.out (.cells #[.int .i64 0, .int .i64 0, .int .i64 0, .int .i64 0, .slice none 0 0, .int .i64 0, .int .i64 0, .int .i64 0, .int .i64 0, .slice none 0 0, .int .i64 0, .int .i64 0, .int .i64 0, .int .i64 0, .slice none 0 0, .int .i64 0, .bool false] 35) #[.int .i64 x0, .int .i64 y0, .int .i64 z0, .int .i64 u0, .slice B0 n0 d0, .int .i64 x2, .int .i64 y2, .int .i64 z2, .int .i64 u2, .slice B2 n2 d2, .int .i64 x1, .int .i64 y1, .int .i64 z1, .int .i64 u1, .slice B1 n1 d1, .int .i64 pr, .bool fr])
  replace s0 := Lib.hid (sl_made s0 (.cells #[.int .i64 0, .int .i64 0, .int .i64 0, .int .i64 0, .slice none 0 0, .int .i64 0, .int .i64 0, .int .i64 0, .int .i64 0, .slice none 0 0, .int .i64 0, .int .i64 0, .int .i64 0, .int .i64 0, .slice none 0 0, .int .i64 0, .bool false] 35) #[.int .i64 x0, .int .i64 y0, .int .i64 z0, .int .i64 u0, .slice B0 n0 d0, .int .i64 x2, .int .i64 y2, .int .i64 z2, .int .i64 u2, .slice B2 n2 d2, .int .i64 x1, .int .i64 y1, .int .i64 z1, .int .i64 u1, .slice B1 n1 d1, .int .i64 pr, .bool fr])
  replace s1 := Lib.hid (sl_made s1 (.cells #[.int .i64 0, .int .i64 0, .int .i64 0, .int .i64 0, .slice none 0 0, .int .i64 0, .int .i64 0, .int .i64 0, .int .i64 0, .slice none 0 0, .int .i64 0, .int .i64 0, .int .i64 0, .int .i64 0, .slice none 0 0, .int .i64 0, .bool false] 35) #[.int .i64 x0, .int .i64 y0, .int .i64 z0, .int .i64 u0, .slice B0 n0 d0, .int .i64 x2, .int .i64 y2, .int .i64 z2, .int .i64 u2, .slice B2 n2 d2, .int .i64 x1, .int .i64 y1, .int .i64 z1, .int .i64 u1, .slice B1 n1 d1, .int .i64 pr, .bool fr])
  replace s2 := Lib.hid (sl_made s2 (.cells #[.int .i64 0, .int .i64 0, .int .i64 0, .int .i64 0, .slice none 0 0, .int .i64 0, .int .i64 0, .int .i64 0, .int .i64 0, .slice none 0 0, .int .i64 0, .int .i64 0, .int .i64 0, .int .i64 0, .slice none 0 0, .int .i64 0, .bool false] 35) #[.int .i64 x0, .int .i64 y0, .int .i64 z0, .int .i64 u0, .slice B0 n0 d0, .int .i64 x2, .int .i64 y2, .int .i64 z2, .int .i64 u2, .slice B2 n2 d2, .int .i64 x1, .int .i64 y1, .int .i64 z1, .int .i64 u1, .slice B1 n1 d1, .int .i64 pr, .bool fr])
  replace hB := Lib.hid (below_setRow (hB.out.alloc hB.out.size (.cells #[.int .i64 0, .int .i64 0, .int .i64 0, .int .i64 0, .slice none 0 0, .int .i64 0, .int .i64 0, .int .i64 0, .int .i64 0, .slice none 0 0, .int .i64 0, .int .i64 0, .int .i64 0, .int .i64 0, .slice none 0 0, .int .i64 0, .bool false] 35)) hB.out.size #[.int .i64 x0, .int .i64 y0, .int .i64 z0, .int .i64 u0, .slice B0 n0 d0, .int .i64 x2, .int .i64 y2, .int .i64 z2, .int .i64 u2, .slice B2 n2 d2, .int .i64 x1, .int .i64 y1, .int .i64 z1, .int .i64 u1, .slice B1 n1 d1, .int .i64 pr, .bool fr])
  generalize (W1.alloc (.cells #[.int .i64 0, .int .i64 0, .int .i64 0, .int .i64 0, .slice none 0 0, .int .i64 0, .int .i64 0, .int .i64 0, .int .i64 0, .slice none 0 0, .int .i64 0, .int .i64 0, .int .i64 0, .int .i64 0, .slice none 0 0, .int .i64 0, .bool false] 35)).setRow W1.heap.size #[.int .i64 x0, .int .i64 y0, .int .i64 z0, .int .i64 u0, .slice B0 n0 d0, .int .i64 x2, .int .i64 y2, .int .i64 z2, .int .i64 u2, .slice B2 n2 d2, .int .i64 x1, .int .i64 y1, .int .i64 z1, .int .i64 u1, .slice B1 n1 d1, .int .i64 pr, .bool fr] = X at *
  have cc := hc.out.cell
  go_wp2_with (refine wpList_load_sub rfl 25 _ rfl _ 0 rfl _ _ #[.int .i64 x0, .int .i64 y0, .int .i64 z0, .int .i64 u0, .slice A0 n0 c0, .int .i64 x1, .int .i64 y1, .int .i64 z1, .int .i64 u1, .slice A1 n1 c1, .int .i64 x2, .int .i64 y2, .int .i64 z2, .int .i64 u2, .slice A2 n2 c2] _ _ hc.out rfl Try.underlying25 rfl t3Info ?_)
  refine (area_at _ _ _ _ _ _ _ _ _ _ _ _ _ _ _ _ _ _ _ _ _ _ _ har.out).mono ?_
  rintro e V1 ⟨rfl, hb⟩
  clear cc
  replace hc := Lib.hid (hc.out.call hb)
  replace ht := Lib.hid (ht.out.call hb)
  replace hB := Lib.hid (below_on hB.out hb)
  replace s0 := Lib.hid (s0.out.call hb)
  replace k0 := Lib.hid (k0.out.call hb)
  clear hb
  have cc := hc.out.cell
  go_wp2_with fail
  refine (keep_at _ _ _ _ _ hfb.out).mono ?_
  rintro e xw ⟨rfl, rfl⟩
  have ct := ht.out.cell
  go_wp2_with (first | refine wpList_load_sub rfl 25 _ rfl _ 0 rfl _ _ #[.int .i64 x0, .int .i64 y0, .int .i64 z0, .int .i64 u0, .slice B0 n0 d0, .int .i64 x2, .int .i64 y2, .int .i64 z2, .int .i64 u2, .slice B2 n2 d2, .int .i64 x1, .int .i64 y1, .int .i64 z1, .int .i64 u1, .slice B1 n1 d1] _ _ ht.out rfl Try.underlying25 rfl t3Info ?_ | refine wpList_load_subG rfl 25 _ rfl _ 0 rfl _ _ #[.int .i64 x0, .int .i64 y0, .int .i64 z0, .int .i64 u0, .slice B0 n0 d0, .int .i64 x2, .int .i64 y2, .int .i64 z2, .int .i64 u2, .slice B2 n2 d2, .int .i64 x1, .int .i64 y1, .int .i64 z1, .int .i64 u1, .slice B1 n1 d1] _ _ ht.out rfl Try.underlying25 rfl t3Info ?_)
  refine (area_at x0 y0 z0 u0 x2 y2 z2 u2 x1 y1 z1 u1 B0 B2 B1 n0 d0 n2 d2 n1 d1 _ _ hsw.out).mono ?_
  rintro e V2 ⟨rfl, hb⟩
  clear cc ct
  replace hc := Lib.hid (hc.out.call hb)
  replace ht := Lib.hid (ht.out.call hb)
  replace hB := Lib.hid (below_on hB.out hb)
  replace s0 := Lib.hid (s0.out.call hb)
  replace k0 := Lib.hid (k0.out.call hb)
  clear hb
  have cc := hc.out.cell
  have ct := ht.out.cell
  go_wp2_with (first | refine wpList_load_sub rfl 25 _ rfl _ 0 rfl _ _ #[.int .i64 x0, .int .i64 y0, .int .i64 z0, .int .i64 u0, .slice B0 n0 d0, .int .i64 x2, .int .i64 y2, .int .i64 z2, .int .i64 u2, .slice B2 n2 d2, .int .i64 x1, .int .i64 y1, .int .i64 z1, .int .i64 u1, .slice B1 n1 d1] _ _ ht.out rfl Try.underlying25 rfl t3Info ?_ | refine wpList_load_subG rfl 25 _ rfl _ 0 rfl _ _ #[.int .i64 x0, .int .i64 y0, .int .i64 z0, .int .i64 u0, .slice B0 n0 d0, .int .i64 x2, .int .i64 y2, .int .i64 z2, .int .i64 u2, .slice B2 n2 d2, .int .i64 x1, .int .i64 y1, .int .i64 z1, .int .i64 u1, .slice B1 n1 d1] _ _ ht.out rfl Try.underlying25 rfl t3Info ?_)
  refine (area_at x0 y0 z0 u0 x2 y2 z2 u2 x1 y1 z1 u1 B0 B2 B1 n0 d0 n2 d2 n1 d1 _ _ hsw.out).mono ?_
  rintro e V3 ⟨rfl, hb⟩
  clear cc ct
  replace hc := Lib.hid (hc.out.call hb)
  replace ht := Lib.hid (ht.out.call hb)
  replace hB := Lib.hid (below_on hB.out hb)
  replace s0 := Lib.hid (s0.out.call hb)
  replace k0 := Lib.hid (k0.out.call hb)
  clear hb
  have cc := hc.out.cell
  have ct := ht.out.cell
  go_wp2_with (first | refine wpList_load_subG rfl 24 _ rfl _ 0 rfl _ _ #[.int .i64 x0, .int .i64 y0, .int .i64 z0, .int .i64 u0, .slice B0 n0 d0] _ _ ht.out rfl Try.underlying24 rfl vInfo ?_ | refine wpList_load_subG rfl 24 _ rfl _ 0 rfl _ _ #[.int .i64 x0, .int .i64 y0, .int .i64 z0, .int .i64 u0, .slice A0 n0 c0] _ _ hc.out rfl Try.underlying24 rfl vInfo ?_)
  refine (sameVertex_at x0 y0 z0 u0 n0 h0 f0 B0 A0 d0 c0 _ s0.out k0.out).mono ?_
  rintro e V4 ⟨rfl, hb⟩
  clear cc ct
  replace hc := Lib.hid (hc.out.call hb)
  replace ht := Lib.hid (ht.out.call hb)
  replace hB := Lib.hid (below_on hB.out hb)
  replace s0 := Lib.hid (s0.out.call hb)
  replace k0 := Lib.hid (k0.out.call hb)
  clear hb
  have cc := hc.out.cell
  have ct := ht.out.cell
  go_wp2_with fail
  refine (example_true _).mono ?_
  rintro e V9 ⟨rfl, hb⟩
  replace hB := Lib.hid (below_on hB.out hb)
  clear hb
  go_wp2
  go_ret
  exact ⟨rfl, hB.out⟩
theorem law_positive (x0 y0 z0 u0 x1 y1 z1 u1 x2 y2 z2 u2 : Int) (n0 n1 n2 : Nat) (h0 : n0 ≤ 17592186043904) (h1 : n1 ≤ 17592186043904) (h2 : n2 ≤ 17592186043904) (f0 f1 f2 : Nat → Int) (A0 A1 A2 : Option Addr) (c0 c1 c2 : Nat) (mo pr : Int) (cw : Bool) (w : World) (k0 : Sl w A0 n0 c0 f0) (k1 : Sl w A1 n1 c1 f1) (k2 : Sl w A2 n2 c2 f2) :
    Calls Try.prog 8 #[.agg #[.int .i64 x0, .int .i64 y0, .int .i64 z0, .int .i64 u0, .slice A0 n0 c0, .int .i64 x1, .int .i64 y1, .int .i64 z1, .int .i64 u1, .slice A1 n1 c1, .int .i64 x2, .int .i64 y2, .int .i64 z2, .int .i64 u2, .slice A2 n2 c2, .int .i64 mo, .bool cw, .int .i64 pr]] w fun e w' => e = .returned (.bool true) ∧ Below w.heap.size w w' := by
  cases hkp : keepB (areaI x0 y0 x1 y1 x2 y2) mo cw
  · exact pos_no x0 y0 z0 u0 x1 y1 z1 u1 x2 y2 z2 u2 n0 n1 n2 h0 h1 h2 f0 f1 f2 A0 A1 A2 c0 c1 c2 mo pr cw w k0 k1 k2 hkp
  · rcases (show areaI x0 y0 x1 y1 x2 y2 < 0 ∨ 0 ≤ areaI x0 y0 x1 y1 x2 y2 by omega) with hn | hn
    · exact pos_swap x0 y0 z0 u0 x1 y1 z1 u1 x2 y2 z2 u2 n0 n1 n2 h0 h1 h2 f0 f1 f2 A0 A1 A2 c0 c1 c2 mo pr cw w k0 k1 k2 hn hkp
    · exact pos_keep x0 y0 z0 u0 x1 y1 z1 u1 x2 y2 z2 u2 n0 n1 n2 h0 h1 h2 f0 f1 f2 A0 A1 A2 c0 c1 c2 mo pr cw w k0 k1 k2 hn hkp
end Go.Proofs.Ytboffbajmlkhiaa
