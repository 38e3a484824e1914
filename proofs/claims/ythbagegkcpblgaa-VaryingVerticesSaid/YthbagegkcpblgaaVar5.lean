/- The number at a place of a list; Values of package varying. -/
import Derived.Test.YthbagegkcpblgaaVar3
import Derived.Test.YthbagegkcpblgaaRowI
import Derived.BigRegion
namespace Go.Proofs.Ythbagegkcpblgaa
open Go.RowKit
attribute [local go_sem] Ext.cell
theorem row_own {W : World} {B n base : Nat} {f V : Nat → Int} (hb : Blk W B 3 (rowOf n f)) (hB : base ≤ B) (hn : n ≤ 17592186043904) (hU : Upto n f V) : W.ownsRow base 3 1 (.slice (some ⟨B, 0, none⟩) n n) n (intsOf V n) :=
  ⟨by rw [intsOf_len, Nat.mul_one], .inr ⟨B, n, rowOf n f, rfl, hB, hb, Nat.le_refl _, by simp only [maxLen]; omega, by simp [rowOf], by
    have : (rowOf n f).toList = intsOf V n := intsOf_congr hU
    rw [this, List.take_of_length_le (by rw [intsOf_len]; omega)]⟩⟩
/-- The number at a place, 0 behind the end. -/
def compI (n : Nat) (f : Nat → Int) (k : Nat) : Int := if k < n then f k else 0
/-- The varyings at a point: the mix of the three lists, place by place. -/
def valsAt (r0 r1 : Int) (n1 n2 : Nat) (f0 f1 f2 : Nat → Int) : Nat → Int := fun k => mixI r0 r1 (f0 k) (compI n1 f1 k) (compI n2 f2 k)
set_option maxHeartbeats 4000000 in
theorem component_at (A : Option Addr) (n c : Nat) (f : Nat → Int) (k : Nat) (v : Int) (hn : n ≤ 17592186043904) (hk : k ≤ 17592186043904) (hv : compI n f k = v) (w : World) (h : Sl w A n c f) :
    Calls Try.prog 35 #[.slice A n c, .int .i64 (k : Int)] w fun e w' => e = .returned (.int .i64 v) ∧ w = w' := by
  have k0 : (0 : Int) ≤ k := by omega
  have k1 : (k : Int) ≤ 17592186043904 := by omega
  have n1 : (n : Int) ≤ 17592186043904 := by omega
  unfold compI at hv
  by_cases hlt : k < n
  · rw [if_pos hlt] at hv
    obtain ⟨a, rfl, -, hc⟩ := h.get hlt
    rw [hv] at hc
    have hlt' : (k : Int) < n := by omega
    go_enter Try.func35, Try.ntmps35
    go_wp2
    go_ret
    exact ⟨rfl, rfl⟩
  · rw [if_neg hlt] at hv
    subst hv
    have hge : (n : Int) ≤ k := by omega
    go_enter Try.func35, Try.ntmps35
    go_wp2
    go_ret
    exact ⟨rfl, rfl⟩
set_option maxHeartbeats 4000000 in
theorem element_at (A : Option Addr) (n c : Nat) (f : Nat → Int) (k : Nat) (v : Int) (hn : n ≤ 17592186043904) (hk : k ≤ 17592186043904) (hv : compI n f k = v) (w : World) (h : Sl w A n c f) :
    Calls Try.prog 37 #[.slice A n c, .int .i64 (k : Int)] w fun e w' => e = .returned (.int .i64 v) ∧ w = w' := by
  have k0 : (0 : Int) ≤ k := by omega
  have k1 : (k : Int) ≤ 17592186043904 := by omega
  have n1 : (n : Int) ≤ 17592186043904 := by omega
  unfold compI at hv
  by_cases hlt : k < n
  · rw [if_pos hlt] at hv
    obtain ⟨a, rfl, -, hc⟩ := h.get hlt
    rw [hv] at hc
    have hlt' : (k : Int) < n := by omega
    go_enter Try.func37, Try.ntmps37
    go_wp2
    go_ret
    exact ⟨rfl, rfl⟩
  · rw [if_neg hlt] at hv
    subst hv
    have hge : (n : Int) ≤ k := by omega
    go_enter Try.func37, Try.ntmps37
    go_wp2
    go_ret
    exact ⟨rfl, rfl⟩
set_option maxRecDepth 100000 in
set_option maxHeartbeats 16000000 in
theorem values_own (x0 y0 z0 u0 x1 y1 z1 u1 x2 y2 z2 u2 : Int) (A0 A1 A2 : Option Addr) (n0 c0 n1 c1 n2 c2 : Nat) (pr : Int) (fr : Bool) (px py : Int) (w : World) (hn0 : n0 ≤ 17592186043904) (hn1 : n1 ≤ 17592186043904) (hn2 : n2 ≤ 17592186043904) (f0 f1 f2 : Nat → Int) (k0 : Sl w A0 n0 c0 f0) (k1 : Sl w A1 n1 c1 f1) (k2 : Sl w A2 n2 c2 f2) (r0 r1 : Int) (hP : ∀ w, Calls Try.prog 19 #[.agg #[.int .i64 x0, .int .i64 y0, .int .i64 z0, .int .i64 u0, .slice A0 n0 c0, .int .i64 x1, .int .i64 y1, .int .i64 z1, .int .i64 u1, .slice A1 n1 c1, .int .i64 x2, .int .i64 y2, .int .i64 z2, .int .i64 u2, .slice A2 n2 c2, .int .i64 pr, .bool fr], .int .i64 px, .int .i64 py] w fun e w' => e = .returned (.agg #[.int .i64 r0, .int .i64 r1]) ∧ Below w.heap.size w w') (hv : validB x0 y0 x1 y1 x2 y2 = true) :
    Calls Try.prog 12 #[.agg #[.int .i64 x0, .int .i64 y0, .int .i64 z0, .int .i64 u0, .slice A0 n0 c0, .int .i64 x1, .int .i64 y1, .int .i64 z1, .int .i64 u1, .slice A1 n1 c1, .int .i64 x2, .int .i64 y2, .int .i64 z2, .int .i64 u2, .slice A2 n2 c2, .int .i64 pr, .bool fr], .int .i64 px, .int .i64 py] w fun e w' => Below w.heap.size w w' ∧ ∃ v, e = .returned v ∧ w'.ownsRow w.heap.size 3 1 v n0 (intsOf (valsAt r0 r1 n1 n2 f0 f1 f2) n0) := by
  obtain ⟨V, hV⟩ : ∃ V : Nat → Int, ∀ k, valsAt r0 r1 n1 n2 f0 f1 f2 k = V k := ⟨_, fun _ => rfl⟩
  have hVV : valsAt r0 r1 n1 n2 f0 f1 f2 = V := funext hV
  rw [hVV]
  clear hVV
  unfold valsAt at hV
  replace hV := Lib.hid hV
  replace hP := Lib.hid hP
  replace hv := Lib.hid (fun w => valid_at x0 y0 z0 u0 x1 y1 z1 u1 x2 y2 z2 u2 A0 A1 A2 n0 c0 n1 c1 n2 c2 pr fr w true hv)
  have nn0 : (0 : Int) ≤ n0 := by omega
  have nn1 : (n0 : Int) ≤ 17592186043904 := by omega
  have hmk : ∀ w : World, (Instr.makeSlice 22 (.int .i64 (n0 : Int)) (.int .i64 (n0 : Int))).run Try.prog w = .ok (.slice (some ⟨w.heap.size, 0, none⟩) n0 n0) (w.alloc (.cells (rowOf n0 (fun _ => 0)) 3)) := fun w => make_intsL n0 hn0 w
  have hk := Lib.hid (Blk.new w 27 #[.int .i64 x0, .int .i64 y0, .int .i64 z0, .int .i64 u0, .slice A0 n0 c0, .int .i64 x1, .int .i64 y1, .int .i64 z1, .int .i64 u1, .slice A1 n1 c1, .int .i64 x2, .int .i64 y2, .int .i64 z2, .int .i64 u2, .slice A2 n2 c2, .int .i64 pr, .bool fr])
  have hB : Hid (Below w.heap.size w (w.alloc (.cells #[.int .i64 x0, .int .i64 y0, .int .i64 z0, .int .i64 u0, .slice A0 n0 c0, .int .i64 x1, .int .i64 y1, .int .i64 z1, .int .i64 u1, .slice A1 n1 c1, .int .i64 x2, .int .i64 y2, .int .i64 z2, .int .i64 u2, .slice A2 n2 c2, .int .i64 pr, .bool fr] 27))) := Lib.hid (by go_grown)
  replace k0 := Lib.hid (k0.alloc (.cells #[.int .i64 x0, .int .i64 y0, .int .i64 z0, .int .i64 u0, .slice A0 n0 c0, .int .i64 x1, .int .i64 y1, .int .i64 z1, .int .i64 u1, .slice A1 n1 c1, .int .i64 x2, .int .i64 y2, .int .i64 z2, .int .i64 u2, .slice A2 n2 c2, .int .i64 pr, .bool fr] 27))
  replace k1 := Lib.hid (k1.alloc (.cells #[.int .i64 x0, .int .i64 y0, .int .i64 z0, .int .i64 u0, .slice A0 n0 c0, .int .i64 x1, .int .i64 y1, .int .i64 z1, .int .i64 u1, .slice A1 n1 c1, .int .i64 x2, .int .i64 y2, .int .i64 z2, .int .i64 u2, .slice A2 n2 c2, .int .i64 pr, .bool fr] 27))
  replace k2 := Lib.hid (k2.alloc (.cells #[.int .i64 x0, .int .i64 y0, .int .i64 z0, .int .i64 u0, .slice A0 n0 c0, .int .i64 x1, .int .i64 y1, .int .i64 z1, .int .i64 u1, .slice A1 n1 c1, .int .i64 x2, .int .i64 y2, .int .i64 z2, .int .i64 u2, .slice A2 n2 c2, .int .i64 pr, .bool fr] 27))
  go_enter Try.func12, Try.ntmps12
  go_wp2_with (refine wpList_load_row rfl 27 _ rfl _ rfl _ _ _ _ hk.out Try.underlying27 rfl triInfo ?_)
  refine (hv.out _).mono ?_
  rintro e W0 ⟨rfl, hb⟩
  replace hk := Lib.hid (hk.out.call hb)
  replace k0 := Lib.hid (k0.out.call hb)
  replace k1 := Lib.hid (k1.out.call hb)
  replace k2 := Lib.hid (k2.out.call hb)
  replace hB := Lib.hid (below_on hB.out hb)
  clear hb
  clear hv
  go_wp2_with (refine wpList_load_row rfl 27 _ rfl _ rfl _ _ _ _ hk.out Try.underlying27 rfl triInfo ?_)
  refine (hP.out _).mono ?_
  rintro e W1 ⟨rfl, hb⟩
  replace hk := Lib.hid (hk.out.call hb)
  replace k0 := Lib.hid (k0.out.call hb)
  replace k1 := Lib.hid (k1.out.call hb)
  replace k2 := Lib.hid (k2.out.call hb)
  replace hB := Lib.hid (below_on hB.out hb)
  clear hb
  clear hP
  have hz := hk.out.lt
  have hl0 : Hid (∀ a, A0 = some a → 0 < n0 → a.block < W1.heap.size) := Lib.hid (sl_lt k0.out)
  have hl1 : Hid (∀ a, A1 = some a → 0 < n1 → a.block < W1.heap.size) := Lib.hid (sl_lt k1.out)
  have hl2 : Hid (∀ a, A2 = some a → 0 < n2 → a.block < W1.heap.size) := Lib.hid (sl_lt k2.out)
  have hm := Lib.hid ((Blk.new W1 28 #[.int .i64 r0, .int .i64 r1]).alloc (.cells (rowOf n0 (fun _ => 0)) 3))
  have hp := Lib.hid (Blk.new1 W1 3 (rowOf n0 (fun _ => 0)) (.cells #[.int .i64 r0, .int .i64 r1] 28))
  replace hk := Lib.hid (hk.out.alloc (.cells #[.int .i64 r0, .int .i64 r1] 28))
  have ck := hk.out.cell
  go_wp2_with fail
  clear ck
  replace hk := Lib.hid (hk.out.alloc (.cells (rowOf n0 (fun _ => 0)) 3))
  replace k0 := Lib.hid ((k0.out.alloc (.cells #[.int .i64 r0, .int .i64 r1] 28)).alloc (.cells (rowOf n0 (fun _ => 0)) 3))
  replace k1 := Lib.hid ((k1.out.alloc (.cells #[.int .i64 r0, .int .i64 r1] 28)).alloc (.cells (rowOf n0 (fun _ => 0)) 3))
  replace k2 := Lib.hid ((k2.out.alloc (.cells #[.int .i64 r0, .int .i64 r1] 28)).alloc (.cells (rowOf n0 (fun _ => 0)) 3))
  have hsz := hB.out.size
  replace hB := Lib.hid ((hB.out.alloc hB.out.size (.cells #[.int .i64 r0, .int .i64 r1] 28)).alloc (by simp <;> omega) (.cells (rowOf n0 (fun _ => 0)) 3))
  obtain ⟨g, hgg⟩ : ∃ g, W1.heap.size = g := ⟨_, rfl⟩
  simp only [hgg] at hm hp hk k0 k1 k2 hB hz hl0 hl1 hl2 ⊢
  generalize (W1.alloc (.cells #[.int .i64 r0, .int .i64 r1] 28)).alloc (.cells (rowOf n0 (fun _ => 0)) 3) = X at *
  clear hgg hsz
  go_loopw [9, 10, 29] (fun _ _ i wr => ∃ (k : Nat) (G : Nat → Int), k ≤ n0 ∧ i = .int .i64 k ∧ Hid (Upto k G V) ∧ Blk wr w.heap.size 27 #[.int .i64 x0, .int .i64 y0, .int .i64 z0, .int .i64 u0, .slice A0 n0 c0, .int .i64 x1, .int .i64 y1, .int .i64 z1, .int .i64 u1, .slice A1 n1 c1, .int .i64 x2, .int .i64 y2, .int .i64 z2, .int .i64 u2, .slice A2 n2 c2, .int .i64 pr, .bool fr] ∧ Blk wr g 28 #[.int .i64 r0, .int .i64 r1] ∧ Blk wr (g + 1) 3 (rowOf n0 G) ∧ Sl wr A0 n0 c0 f0 ∧ Sl wr A1 n1 c1 f1 ∧ Sl wr A2 n2 c2 f2 ∧ Below w.heap.size w wr)
    (fun _ _ i _ => n0 - (intOf i).toNat)
  case atStart => exact ⟨0, _, by omega, rfl, Lib.hid (upto_zero _ V), hk.out, hm.out, hp.out, k0.out, k1.out, k2.out, hB.out⟩
  case round =>
    clear hk hm hp k0 k1 k2 hB
    obtain ⟨k, G, hkn, rfl, hU, hk, hm, hp, k0, k1, k2, hB⟩ := hrel
    replace hk := Lib.hid hk
    replace hm := Lib.hid hm
    replace hp := Lib.hid hp
    replace k0 := Lib.hid k0
    replace k1 := Lib.hid k1
    replace k2 := Lib.hid k2
    replace hB := Lib.hid hB
    by_cases hlt : k < n0
    · have hlt' : (k : Int) < n0 := by omega
      obtain ⟨b, rfl, -, cc⟩ := k0.out.get hlt
      obtain ⟨v1, e1⟩ : ∃ v, compI n1 f1 k = v := ⟨_, rfl⟩
      obtain ⟨v2, e2⟩ : ∃ v, compI n2 f2 k = v := ⟨_, rfl⟩
      have hv := hV.out k
      rw [e1, e2] at hv
      obtain ⟨x, hx⟩ : ∃ x, f0 k = x := ⟨_, rfl⟩
      rw [hx] at hv cc
      obtain ⟨v, hvv⟩ : ∃ v, V k = v := ⟨_, rfl⟩
      have hU2 := upto_succ hU.out
      rw [hvv] at hv hU2
      replace hU2 := Lib.hid hU2
      have hM := Lib.hid (fun w => mix_at r0 r1 x v1 v2 v hv w)
      have hC1 := Lib.hid (fun w h => component_at A1 n1 c1 f1 k v1 hn1 (by omega) e1 w h)
      have hC2 := Lib.hid (fun w h => component_at A2 n2 c2 f2 k v2 hn2 (by omega) e2 w h)
      clear hx hvv hv e1 e2
      go_wp2_with fail
      clear cc
      refine' wp_region_fresh 17 [] (by kernel_rfl) (by kernel_rfl) (by simp) (by simp) (by simp) (by simp) ?hz ?h1 ?hs ?h2
      case hz =>
        intro z hz
        cases hz
      case h1 =>
        intro u hu
        have hku := hk.out.below hu hk.out.lt
        have ck := hku.cell
        have lk := hku.lt
        have hmu := hm.out.below hu hm.out.lt
        have lm := hmu.lt
        have k1u := k1.out.call hu
        have k2u := k2.out.call hu
        simp only [List.take_succ_cons, List.take_zero, List.filter, isMk, isAl, isSt, Bool.or_false, Bool.not_false]
        repeat (first | (go_big_quiet_want; refine quiet_load_row 28 _ rfl _ rfl _ _ _ hmu (by assumption) Try.underlying28 rfl i2Info ?_; simp only [Act.put, List.setIfInBounds_toArray, List.set_cons_zero, List.set_cons_succ]; go_big_quiet_on) | go_big_quiet_step (first | (go_at_call_of 35 (Value.slice A1 n1 c1); exact ext_same (hC1.out _ (k1u.call (Ext.below _)))) | (go_at_call_of 35 (Value.slice A2 n2 c2); exact ext_same (hC2.out _ (k2u.call (Ext.below _)))) | (go_at_call 23; exact ext_call (Nat.le_refl _) (hM.out _))))
        exact wpQuiet_nil rfl
      case hs =>
        intro z hz
        cases hz
      case h2 =>
      intro ℓ xw hlet
      obtain ⟨hbx, -, -⟩ := hlet
      dsimp only [List.drop, lay, List.foldl] at *
      replace hk := Lib.hid (hk.out.below hbx hk.out.lt)
      replace hm := Lib.hid (hm.out.below hbx hm.out.lt)
      replace hp := Lib.hid (hp.out.below hbx hp.out.lt)
      replace k0 := Lib.hid (k0.out.call hbx)
      replace k1 := Lib.hid (k1.out.call hbx)
      replace k2 := Lib.hid (k2.out.call hbx)
      replace hB := Lib.hid (below_on hB.out hbx)
      clear hbx hM hC1 hC2
      have cp : xw.cell? ⟨g + 1, k, none⟩ = some (.int .i64 (G k)) := by rw [hp.out.cell, rowOf_get hlt]
      have fp : xw.frozen? ⟨g + 1, k, none⟩ = false := hp.out.frozen k
      have hk' := Lib.hid (hk.out.far (p := ⟨g + 1, k, none⟩) (by simp <;> omega) (.int .i64 v))
      have hm' := Lib.hid (hm.out.far (p := ⟨g + 1, k, none⟩) (by simp <;> omega) (.int .i64 v))
      have hp' : Hid (Blk (xw.setCell ⟨g + 1, k, none⟩ (.int .i64 v)) (g + 1) 3 (rowOf n0 (upd G k v))) := Lib.hid (by rw [← rowOf_set]; exact hp.out.set_ k _)
      have k0' := Lib.hid (k0.out.setN (p := ⟨g + 1, k, none⟩) (fun a e h => by have := hl0.out a e h; simp; omega) (.int .i64 v))
      have k1' := Lib.hid (k1.out.setN (p := ⟨g + 1, k, none⟩) (fun a e h => by have := hl1.out a e h; simp; omega) (.int .i64 v))
      have k2' := Lib.hid (k2.out.setN (p := ⟨g + 1, k, none⟩) (fun a e h => by have := hl2.out a e h; simp; omega) (.int .i64 v))
      have hB' := Lib.hid (hB.out.setCell (p := ⟨g + 1, k, none⟩) (by simp <;> omega) (.int .i64 v))
      clear hk hm hp k0 k1 k2 hB
      go_wp2_with fail
      go_roundw
      case rel => exact ⟨k + 1, upd G k v, by omega, by go_num, hU2, hk'.out, hm'.out, hp'.out, k0'.out, k1'.out, k2'.out, hB'.out⟩
      case measure => simp [intOf]; omega
    · have he : k = n0 := by omega
      have hlt' : (n0 : Int) ≤ k := by omega
      subst he
      go_wp2
      go_ret
      exact ⟨hB.out, _, rfl, row_own hp.out (by omega) (by omega) hU.out⟩
theorem values_yes (x0 y0 z0 u0 x1 y1 z1 u1 x2 y2 z2 u2 : Int) (A0 A1 A2 : Option Addr) (n0 c0 n1 c1 n2 c2 : Nat) (pr : Int) (fr : Bool) (px py : Int) (w : World) (hn0 : n0 ≤ 17592186043904) (hn1 : n1 ≤ 17592186043904) (hn2 : n2 ≤ 17592186043904) (f0 f1 f2 : Nat → Int) (k0 : Sl w A0 n0 c0 f0) (k1 : Sl w A1 n1 c1 f1) (k2 : Sl w A2 n2 c2 f2) (r0 r1 : Int) (hP : ∀ w, Calls Try.prog 19 #[.agg #[.int .i64 x0, .int .i64 y0, .int .i64 z0, .int .i64 u0, .slice A0 n0 c0, .int .i64 x1, .int .i64 y1, .int .i64 z1, .int .i64 u1, .slice A1 n1 c1, .int .i64 x2, .int .i64 y2, .int .i64 z2, .int .i64 u2, .slice A2 n2 c2, .int .i64 pr, .bool fr], .int .i64 px, .int .i64 py] w fun e w' => e = .returned (.agg #[.int .i64 r0, .int .i64 r1]) ∧ Below w.heap.size w w') (hv : validB x0 y0 x1 y1 x2 y2 = true) :
    Calls Try.prog 12 #[.agg #[.int .i64 x0, .int .i64 y0, .int .i64 z0, .int .i64 u0, .slice A0 n0 c0, .int .i64 x1, .int .i64 y1, .int .i64 z1, .int .i64 u1, .slice A1 n1 c1, .int .i64 x2, .int .i64 y2, .int .i64 z2, .int .i64 u2, .slice A2 n2 c2, .int .i64 pr, .bool fr], .int .i64 px, .int .i64 py] w fun e w' => Below w.heap.size w w' ∧ ∃ A c, e = .returned (.slice A n0 c) ∧ Sl w' A n0 c (valsAt r0 r1 n1 n2 f0 f1 f2) ∧ ∀ a, A = some a → w.heap.size ≤ a.block :=
  (values_own x0 y0 z0 u0 x1 y1 z1 u1 x2 y2 z2 u2 A0 A1 A2 n0 c0 n1 c1 n2 c2 pr fr px py w hn0 hn1 hn2 f0 f1 f2 k0 k1 k2 r0 r1 hP hv).mono fun e w' ⟨hb, v, he, ho⟩ => by
    obtain ⟨A, c, rfl, hs, hl⟩ := own_sl ho
    exact ⟨hb, A, c, he, hs, hl⟩
end Go.Proofs.Ythbagegkcpblgaa
