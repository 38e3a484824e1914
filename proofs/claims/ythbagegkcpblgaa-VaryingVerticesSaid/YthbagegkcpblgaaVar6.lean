/- Values of the reference of chapter 37, and Values at a triangle that is not valid. -/
import Derived.Test.YthbagegkcpblgaaVar5
namespace Go.Proofs.Ythbagegkcpblgaa
open Go.RowKit
attribute [local go_sem] Ext.cell
theorem element_bl (A : Option Addr) (n c : Nat) (f : Nat → Int) (k : Nat) (v : Int) (hn : n ≤ 17592186043904) (hk : k ≤ 17592186043904) (hv : compI n f k = v) (w : World) (h : Sl w A n c f) :
    Calls Try.prog 37 #[.slice A n c, .int .i64 (k : Int)] w fun e w' => e = .returned (.int .i64 v) ∧ Below w.heap.size w w' :=
  (element_at A n c f k v hn hk hv w h).mono fun _ _ ⟨h1, h2⟩ => ⟨h1, h2 ▸ Below.refl _ _⟩
theorem cat_one {V : Nat → Int} {k : Nat} {v : Int} (h : V k = v) : intsOf (catI k V fun _ => v) (k + 1) = intsOf V (k + 1) :=
  intsOf_congr fun i hi => by
    unfold catI
    split
    · rfl
    · obtain rfl : i = k := by omega
      exact h.symm
theorem Sl.far9 {W W' : World} {A : Option Addr} {n c g : Nat} {f : Nat → Int} (h : Sl W A n c f) (hb : Below (g + 1) W W') (hl : ∀ a, A = Option.some a → 0 < n → a.block < g) : Sl W' A n c f :=
  ⟨h.nil, fun h0 => by
    obtain ⟨a, e, hl'⟩ := h.lies h0
    exact ⟨a, e, hl'.far hb fun _ => Nat.lt_succ_of_lt (hl a e h0)⟩⟩
theorem one_sl {W : World} {B : Nat} {v : Int} (h : Blk W B 3 #[.int .i64 v]) : Sl W (some ⟨B, 0, none⟩) 1 1 (fun _ => v) :=
  Sl.some ⟨fun _ => h.lt, fun i hi => by
    obtain rfl : i = 0 := by omega
    rw [add_plain, h.cell]
    rfl⟩
set_option maxHeartbeats 8000000 in
theorem values_no (x0 y0 z0 u0 x1 y1 z1 u1 x2 y2 z2 u2 : Int) (A0 A1 A2 : Option Addr) (n0 c0 n1 c1 n2 c2 : Nat) (pr : Int) (fr : Bool) (px py : Int) (w : World) (hv : validB x0 y0 x1 y1 x2 y2 = false) :
    Calls Try.prog 12 #[.agg #[.int .i64 x0, .int .i64 y0, .int .i64 z0, .int .i64 u0, .slice A0 n0 c0, .int .i64 x1, .int .i64 y1, .int .i64 z1, .int .i64 u1, .slice A1 n1 c1, .int .i64 x2, .int .i64 y2, .int .i64 z2, .int .i64 u2, .slice A2 n2 c2, .int .i64 pr, .bool fr], .int .i64 px, .int .i64 py] w fun e w' => e = .returned (.slice none 0 0) ∧ Below w.heap.size w w' := by
  replace hv := Lib.hid (fun w => valid_at x0 y0 z0 u0 x1 y1 z1 u1 x2 y2 z2 u2 A0 A1 A2 n0 c0 n1 c1 n2 c2 pr fr w false hv)
  have hk := Lib.hid (Blk.new w 27 #[.int .i64 x0, .int .i64 y0, .int .i64 z0, .int .i64 u0, .slice A0 n0 c0, .int .i64 x1, .int .i64 y1, .int .i64 z1, .int .i64 u1, .slice A1 n1 c1, .int .i64 x2, .int .i64 y2, .int .i64 z2, .int .i64 u2, .slice A2 n2 c2, .int .i64 pr, .bool fr])
  have hB : Hid (Below w.heap.size w (w.alloc (.cells #[.int .i64 x0, .int .i64 y0, .int .i64 z0, .int .i64 u0, .slice A0 n0 c0, .int .i64 x1, .int .i64 y1, .int .i64 z1, .int .i64 u1, .slice A1 n1 c1, .int .i64 x2, .int .i64 y2, .int .i64 z2, .int .i64 u2, .slice A2 n2 c2, .int .i64 pr, .bool fr] 27))) := Lib.hid (by go_grown)
  go_enter Try.func12, Try.ntmps12
  go_wp2_with (refine wpList_load_row rfl 27 _ rfl _ rfl _ _ _ _ hk.out Try.underlying27 rfl triInfo ?_)
  refine (hv.out _).mono ?_
  rintro e W0 ⟨rfl, hb⟩
  replace hk := Lib.hid (hk.out.call hb)
  replace hB := Lib.hid (below_on hB.out hb)
  clear hb
  go_wp2
  go_ret
  exact ⟨rfl, hB.out⟩
set_option maxHeartbeats 8000000 in
theorem rValues_no (x0 y0 z0 u0 x1 y1 z1 u1 x2 y2 z2 u2 : Int) (A0 A1 A2 : Option Addr) (n0 c0 n1 c1 n2 c2 : Nat) (pr : Int) (fr : Bool) (px py : Int) (w : World) (hv : validB x0 y0 x1 y1 x2 y2 = false) :
    Calls Try.prog 13 #[.agg #[.int .i64 x0, .int .i64 y0, .int .i64 z0, .int .i64 u0, .slice A0 n0 c0, .int .i64 x1, .int .i64 y1, .int .i64 z1, .int .i64 u1, .slice A1 n1 c1, .int .i64 x2, .int .i64 y2, .int .i64 z2, .int .i64 u2, .slice A2 n2 c2, .int .i64 pr, .bool fr], .int .i64 px, .int .i64 py] w fun e w' => e = .returned (.slice none 0 0) ∧ Below w.heap.size w w' := by
  replace hv := Lib.hid (fun w => rValid_at x0 y0 z0 u0 x1 y1 z1 u1 x2 y2 z2 u2 A0 A1 A2 n0 c0 n1 c1 n2 c2 pr fr w false hv)
  have hk := Lib.hid (Blk.new w 27 #[.int .i64 x0, .int .i64 y0, .int .i64 z0, .int .i64 u0, .slice A0 n0 c0, .int .i64 x1, .int .i64 y1, .int .i64 z1, .int .i64 u1, .slice A1 n1 c1, .int .i64 x2, .int .i64 y2, .int .i64 z2, .int .i64 u2, .slice A2 n2 c2, .int .i64 pr, .bool fr])
  have hB : Hid (Below w.heap.size w (w.alloc (.cells #[.int .i64 x0, .int .i64 y0, .int .i64 z0, .int .i64 u0, .slice A0 n0 c0, .int .i64 x1, .int .i64 y1, .int .i64 z1, .int .i64 u1, .slice A1 n1 c1, .int .i64 x2, .int .i64 y2, .int .i64 z2, .int .i64 u2, .slice A2 n2 c2, .int .i64 pr, .bool fr] 27))) := Lib.hid (by go_grown)
  go_enter Try.func13, Try.ntmps13
  go_wp2_with (refine wpList_load_row rfl 27 _ rfl _ rfl _ _ _ _ hk.out Try.underlying27 rfl triInfo ?_)
  refine (hv.out _).mono ?_
  rintro e W0 ⟨rfl, hb⟩
  replace hk := Lib.hid (hk.out.call hb)
  replace hB := Lib.hid (below_on hB.out hb)
  clear hb
  go_wp2
  go_ret
  exact ⟨rfl, hB.out⟩
set_option maxRecDepth 100000 in
set_option maxHeartbeats 16000000 in
theorem rValues_yes (x0 y0 z0 u0 x1 y1 z1 u1 x2 y2 z2 u2 : Int) (A0 A1 A2 : Option Addr) (n0 c0 n1 c1 n2 c2 : Nat) (pr : Int) (fr : Bool) (px py : Int) (w : World) (hn0 : n0 ≤ 17592186043904) (hn1 : n1 ≤ 17592186043904) (hn2 : n2 ≤ 17592186043904) (f0 f1 f2 : Nat → Int) (k0 : Sl w A0 n0 c0 f0) (k1 : Sl w A1 n1 c1 f1) (k2 : Sl w A2 n2 c2 f2) (r0 r1 : Int) (hP : ∀ w, Calls Try.prog 20 #[.agg #[.int .i64 x0, .int .i64 y0, .int .i64 z0, .int .i64 u0, .slice A0 n0 c0, .int .i64 x1, .int .i64 y1, .int .i64 z1, .int .i64 u1, .slice A1 n1 c1, .int .i64 x2, .int .i64 y2, .int .i64 z2, .int .i64 u2, .slice A2 n2 c2, .int .i64 pr, .bool fr], .int .i64 px, .int .i64 py] w fun e w' => e = .returned (.agg #[.int .i64 r0, .int .i64 r1]) ∧ Below w.heap.size w w') (hv : validB x0 y0 x1 y1 x2 y2 = true) :
    Calls Try.prog 13 #[.agg #[.int .i64 x0, .int .i64 y0, .int .i64 z0, .int .i64 u0, .slice A0 n0 c0, .int .i64 x1, .int .i64 y1, .int .i64 z1, .int .i64 u1, .slice A1 n1 c1, .int .i64 x2, .int .i64 y2, .int .i64 z2, .int .i64 u2, .slice A2 n2 c2, .int .i64 pr, .bool fr], .int .i64 px, .int .i64 py] w fun e w' => Below w.heap.size w w' ∧ ∃ A c, e = .returned (.slice A n0 c) ∧ Sl w' A n0 c (valsAt r0 r1 n1 n2 f0 f1 f2) ∧ ∀ a, A = some a → w.heap.size ≤ a.block := by
  obtain ⟨V, hV⟩ : ∃ V : Nat → Int, ∀ k, valsAt r0 r1 n1 n2 f0 f1 f2 k = V k := ⟨_, fun _ => rfl⟩
  have hVV : valsAt r0 r1 n1 n2 f0 f1 f2 = V := funext hV
  rw [hVV]
  clear hVV
  unfold valsAt at hV
  replace hV := Lib.hid hV
  replace hP := Lib.hid hP
  replace hv := Lib.hid (fun w => rValid_at x0 y0 z0 u0 x1 y1 z1 u1 x2 y2 z2 u2 A0 A1 A2 n0 c0 n1 c1 n2 c2 pr fr w true hv)
  have nn0 : (0 : Int) ≤ n0 := by omega
  have nn1 : (n0 : Int) ≤ 17592186043904 := by omega
  have hk := Lib.hid (Blk.new w 27 #[.int .i64 x0, .int .i64 y0, .int .i64 z0, .int .i64 u0, .slice A0 n0 c0, .int .i64 x1, .int .i64 y1, .int .i64 z1, .int .i64 u1, .slice A1 n1 c1, .int .i64 x2, .int .i64 y2, .int .i64 z2, .int .i64 u2, .slice A2 n2 c2, .int .i64 pr, .bool fr])
  have hB : Hid (Below w.heap.size w (w.alloc (.cells #[.int .i64 x0, .int .i64 y0, .int .i64 z0, .int .i64 u0, .slice A0 n0 c0, .int .i64 x1, .int .i64 y1, .int .i64 z1, .int .i64 u1, .slice A1 n1 c1, .int .i64 x2, .int .i64 y2, .int .i64 z2, .int .i64 u2, .slice A2 n2 c2, .int .i64 pr, .bool fr] 27))) := Lib.hid (by go_grown)
  replace k0 := Lib.hid (k0.alloc (.cells #[.int .i64 x0, .int .i64 y0, .int .i64 z0, .int .i64 u0, .slice A0 n0 c0, .int .i64 x1, .int .i64 y1, .int .i64 z1, .int .i64 u1, .slice A1 n1 c1, .int .i64 x2, .int .i64 y2, .int .i64 z2, .int .i64 u2, .slice A2 n2 c2, .int .i64 pr, .bool fr] 27))
  replace k1 := Lib.hid (k1.alloc (.cells #[.int .i64 x0, .int .i64 y0, .int .i64 z0, .int .i64 u0, .slice A0 n0 c0, .int .i64 x1, .int .i64 y1, .int .i64 z1, .int .i64 u1, .slice A1 n1 c1, .int .i64 x2, .int .i64 y2, .int .i64 z2, .int .i64 u2, .slice A2 n2 c2, .int .i64 pr, .bool fr] 27))
  replace k2 := Lib.hid (k2.alloc (.cells #[.int .i64 x0, .int .i64 y0, .int .i64 z0, .int .i64 u0, .slice A0 n0 c0, .int .i64 x1, .int .i64 y1, .int .i64 z1, .int .i64 u1, .slice A1 n1 c1, .int .i64 x2, .int .i64 y2, .int .i64 z2, .int .i64 u2, .slice A2 n2 c2, .int .i64 pr, .bool fr] 27))
  go_enter Try.func13, Try.ntmps13
  go_wp2_with (refine wpList_load_row rfl 27 _ rfl _ rfl _ _ _ _ hk.out Try.underlying27 rfl triInfo ?_)
  refine (hv.out _).mono ?_
  rintro e W0 ⟨rfl, hb⟩
  replace hk := Lib.hid (hk.out.call hb)
  replace k0 := Lib.hid (k0.out.call hb)
  replace k1 := Lib.hid (k1.out.call hb)
  replace k2 := Lib.hid (k2.out.call hb)
  replace hB := Lib.hid (below_on hB.out hb)
  clear hb
  clear hv
  go_wp2_with (refine wpList_load_row rfl 27 _ rfl _ rfl _ _ _ _ hk.out Try.underlying27 rfl triInfo ?_)
  refine (hP.out _).mono ?_
  rintro e W1 ⟨rfl, hb⟩
  replace hk := Lib.hid (hk.out.call hb)
  replace k0 := Lib.hid (k0.out.call hb)
  replace k1 := Lib.hid (k1.out.call hb)
  replace k2 := Lib.hid (k2.out.call hb)
  replace hB := Lib.hid (below_on hB.out hb)
  clear hb
  clear hP
  have hz := hk.out.lt
  have hl0 : Hid (∀ a, A0 = some a → 0 < n0 → a.block < W1.heap.size) := Lib.hid (sl_lt k0.out)
  have hl1 : Hid (∀ a, A1 = some a → 0 < n1 → a.block < W1.heap.size) := Lib.hid (sl_lt k1.out)
  have hl2 : Hid (∀ a, A2 = some a → 0 < n2 → a.block < W1.heap.size) := Lib.hid (sl_lt k2.out)
  have hm := Lib.hid (Blk.new W1 28 #[.int .i64 r0, .int .i64 r1])
  replace hk := Lib.hid (hk.out.alloc (.cells #[.int .i64 r0, .int .i64 r1] 28))
  replace k0 := Lib.hid (k0.out.alloc (.cells #[.int .i64 r0, .int .i64 r1] 28))
  replace k1 := Lib.hid (k1.out.alloc (.cells #[.int .i64 r0, .int .i64 r1] 28))
  replace k2 := Lib.hid (k2.out.alloc (.cells #[.int .i64 r0, .int .i64 r1] 28))
  replace hB := Lib.hid (hB.out.alloc hB.out.size (.cells #[.int .i64 r0, .int .i64 r1] 28))
  have hO := Lib.hid (own_nil (W1.alloc (.cells #[.int .i64 r0, .int .i64 r1] 28)) V)
  have hsz : (W1.alloc (.cells #[.int .i64 r0, .int .i64 r1] 28)).heap.size = W1.heap.size + 1 := by simp
  rw [hsz] at hO
  replace hsz := Nat.le_of_eq hsz.symm
  go_wp2_with fail
  obtain ⟨g, hgg⟩ : ∃ g, W1.heap.size = g := ⟨_, rfl⟩
  simp only [hgg] at hm hk k0 k1 k2 hB hz hl0 hl1 hl2 hO hsz ⊢
  generalize W1.alloc (.cells #[.int .i64 r0, .int .i64 r1] 28) = X at *
  clear hgg
  go_loopw [8, 9] (fun u i wr => ∃ (k : Nat), k ≤ n0 ∧ i = .int .i64 k ∧ wr.ownsRow (g + 1) 3 1 u k (intsOf V k) ∧ g + 1 ≤ wr.heap.size ∧ Blk wr w.heap.size 27 #[.int .i64 x0, .int .i64 y0, .int .i64 z0, .int .i64 u0, .slice A0 n0 c0, .int .i64 x1, .int .i64 y1, .int .i64 z1, .int .i64 u1, .slice A1 n1 c1, .int .i64 x2, .int .i64 y2, .int .i64 z2, .int .i64 u2, .slice A2 n2 c2, .int .i64 pr, .bool fr] ∧ Blk wr g 28 #[.int .i64 r0, .int .i64 r1] ∧ Sl wr A0 n0 c0 f0 ∧ Sl wr A1 n1 c1 f1 ∧ Sl wr A2 n2 c2 f2 ∧ Below w.heap.size w wr)
    (fun _ i _ => n0 - (intOf i).toNat)
  case atStart => exact ⟨0, by omega, rfl, hO.out, hsz, hk.out, hm.out, k0.out, k1.out, k2.out, hB.out⟩
  case round =>
    clear hk hm k0 k1 k2 hB hO hsz
    obtain ⟨k, hkn, rfl, hO, hsz, hk, hm, k0, k1, k2, hB⟩ := hrel
    replace hO := Lib.hid hO
    replace hk := Lib.hid hk
    replace hm := Lib.hid hm
    replace k0 := Lib.hid k0
    replace k1 := Lib.hid k1
    replace k2 := Lib.hid k2
    replace hB := Lib.hid hB
    have ck := hk.out.cell
    have lk := hk.out.lt
    by_cases hlt : k < n0
    · have hlt' : (k : Int) < n0 := by omega
      obtain ⟨b, rfl, -, cc⟩ := k0.out.get hlt
      have hbg := hl0.out b rfl (by omega)
      obtain ⟨v1, e1⟩ : ∃ v, compI n1 f1 k = v := ⟨_, rfl⟩
      obtain ⟨v2, e2⟩ : ∃ v, compI n2 f2 k = v := ⟨_, rfl⟩
      have hv := hV.out k
      rw [e1, e2] at hv
      obtain ⟨x, hx⟩ : ∃ x, f0 k = x := ⟨_, rfl⟩
      rw [hx] at hv cc
      obtain ⟨v, hvv⟩ : ∃ v, V k = v := ⟨_, rfl⟩
      rw [hvv] at hv
      replace hvv := Lib.hid (cat_one hvv)
      have cb : ∀ n : Ext wr (g + 1), n.val.cell? (b.add k) = some (.int .i64 x) := fun n => by rw [n.below.cell (by rw [Go.ChangeShapes.block_add]; omega)]; exact cc
      clear cc hx
      have hM := Lib.hid (fun w => rMix_at r0 r1 x v1 v2 v hv w)
      replace e1 := Lib.hid e1
      replace e2 := Lib.hid e2
      clear hv
      have hkk : k ≤ 17592186043904 := by omega
      go_wp2_with fail
      clear hlt'
      refine wp_region_noPanic ?_
      refine wp_region_held_drew (S := fun w' => ∃ n : Ext wr (g + 1), w' = n.val) (by kernel_rfl) ⟨⟨wr.drew, (Below.refl _ _).drew⟩, rfl⟩ (fun _ => ?_)
      refine held_quiets (fun _ _ _ _ _ h => h) (by kernel_rfl) ⟨⟨_, (((Below.refl _ _).drew).mono hsz)⟩, rfl⟩ [0, 1, 2, 3, 4, 5, 6, 7, 8, 9, 10, 11, 12, 13, 15, 16, 17, 18, 19] _ _ _ (by kernel_rfl) (by kernel_rfl) (of_decide_eq_true (by kernel_rfl)) ?_
      simp only [List.filterMap, List.getElem?_toArray, List.getElem?_cons_succ, List.getElem?_cons_zero]
      repeat (first | (go_big_quiet_want; refine quiet_load_row 28 _ rfl _ rfl _ _ _ hm.out (by omega) Try.underlying28 rfl i2Info ?_; simp only [Act.put, List.setIfInBounds_toArray, List.set_cons_zero, List.set_cons_succ]; go_big_quiet_on) | go_big_quiet_step (fail))
      refine wpQuiet_nil ?_
      refine held_heavy (i := 14) (by kernel_rfl) rfl (by rfl) (of_decide_eq_true (by kernel_rfl)) (fun K hK => ?_)
      go_simp
      refine (element_bl A1 n1 c1 f1 k v1 hn1 hkk e1.out _ k1.out.drew).mono ?_
      rintro e U1 ⟨rfl, hv1⟩
      have hbU1 : Below wr.heap.size wr U1 := (((Below.refl _ _).drew).trans (hv1.mono (Nat.le_refl _)))
      refine hK _ _ ⟨⟨U1, (hbU1.mono hsz)⟩, rfl⟩ ?_
      clear hK K
      try simp only [Act.put, List.setIfInBounds_toArray, List.set_cons_zero, List.set_cons_succ]
      refine held_heavy (i := 20) (by kernel_rfl) rfl (by rfl) (of_decide_eq_true (by kernel_rfl)) (fun K hK => ?_)
      go_simp
      refine (element_bl A2 n2 c2 f2 k v2 hn2 hkk e2.out _ (k2.out.call hbU1)).mono ?_
      rintro e U2 ⟨rfl, hv2⟩
      have hbU2 : Below wr.heap.size wr U2 := (below_on hbU1 hv2)
      refine hK _ _ ⟨⟨U2, (hbU2.mono hsz)⟩, rfl⟩ ?_
      clear hK K
      try simp only [Act.put, List.setIfInBounds_toArray, List.set_cons_zero, List.set_cons_succ]
      refine held_heavy (i := 21) (by kernel_rfl) rfl (by rfl) (of_decide_eq_true (by kernel_rfl)) (fun K hK => ?_)
      go_simp
      refine (hM.out _).mono ?_
      rintro e U3 ⟨rfl, hv3⟩
      have hbU3 : Below wr.heap.size wr U3 := (below_on hbU2 hv3)
      refine hK _ _ ⟨⟨U3, (hbU3.mono hsz)⟩, rfl⟩ ?_
      clear hK K
      try simp only [Act.put, List.setIfInBounds_toArray, List.set_cons_zero, List.set_cons_succ]
      refine held_heavy (i := 22) (by kernel_rfl) rfl (by rfl) (of_decide_eq_true (by kernel_rfl)) (fun K hK => ?_)
      go_simp
      refine hK _ _ ⟨⟨U3.alloc (.cells #[.int .i64 v] 3), ((hbU3.mono hsz).alloc (Nat.le_trans hsz hbU3.size) (.cells #[.int .i64 v] 3))⟩, rfl⟩ ?_
      clear hK K
      try simp only [Act.put, List.setIfInBounds_toArray, List.set_cons_zero, List.set_cons_succ]
      have hO3 := Lib.hid ((own_callB hO.out hbU3).alloc (.cells #[.int .i64 v] 3))
      have hN := Lib.hid (one_sl (Blk.new U3 3 #[.int .i64 v]))
      have hs3 : g + 1 ≤ (U3.alloc (.cells #[.int .i64 v] 3)).heap.size := by have := hbU3.size; simp; omega
      refine held_heavy (i := 23) (by kernel_rfl) rfl (by rfl) (of_decide_eq_true (by kernel_rfl)) (fun K hK => ?_)
      refine wp_append_sl _ _ rfl (g + 1) _ k V rfl hO3.out (some ⟨U3.heap.size, 0, none⟩) 1 1 (fun _ => v) rfl hN.out (by omega) hs3 ?_
      intro u9 w9 hown hgr hiff
      clear hiff
      have hb9 : Below (g + 1) wr w9 := (((hbU3.mono hsz).alloc (Nat.le_trans hsz hbU3.size) (.cells #[.int .i64 v] 3))).trans (below_own hO3.out hgr hs3)
      refine hK _ _ ⟨⟨w9, hb9⟩, rfl⟩ ?_
      clear hK K
      simp only [Act.put, List.getElem_toArray, List.getElem_cons_succ, List.getElem_cons_zero, List.setIfInBounds_toArray, List.set_cons_zero, List.set_cons_succ]
      refine held_quiets (fun _ _ _ _ _ h => h) (by kernel_rfl) ⟨⟨_, hb9⟩, rfl⟩ [24] _ _ _ (by kernel_rfl) (by kernel_rfl) (of_decide_eq_true (by kernel_rfl)) ?_
      simp only [List.filterMap, List.getElem?_toArray, List.getElem?_cons_succ, List.getElem?_cons_zero]
      repeat (first | (go_big_quiet_want; refine quiet_load_row 28 _ rfl _ rfl _ _ _ hm.out (by omega) Try.underlying28 rfl i2Info ?_; simp only [Act.put, List.setIfInBounds_toArray, List.set_cons_zero, List.set_cons_succ]; go_big_quiet_on) | go_big_quiet_step (fail))
      refine wpQuiet_nil ?_
      refine wpAnyH_done (by kernel_rfl) ?_ _
      refine NoPanic.normal ?_
      rw [hvv.out] at hown
      have hgk : w.heap.size < g + 1 := by omega
      replace hown := Lib.hid hown
      have hs9 : g + 1 ≤ w9.heap.size := Nat.le_trans hs3 (by have := hgr.size; omega)
      have hk9 := Lib.hid ((hb9.block _ hgk).trans hk.out)
      have hm9 := Lib.hid ((hb9.block _ (Nat.lt_succ_self g)).trans hm.out)
      replace k0 := Lib.hid ((k0.out.far9 hb9 hl0.out))
      replace k1 := Lib.hid ((k1.out.far9 hb9 hl1.out))
      replace k2 := Lib.hid ((k2.out.far9 hb9 hl2.out))
      replace hB := Lib.hid (hB.out.trans (hb9.mono (Nat.le_of_lt hgk)))
      go_wp2_with fail
      go_roundw
      case rel => exact ⟨k + 1, by omega, by go_num, hown.out, hs9, hk9.out, hm9.out, k0.out, k1.out, k2.out, hB.out⟩
      case measure => simp [intOf]; omega
    · have he : k = n0 := by omega
      have hlt' : (n0 : Int) ≤ k := by omega
      subst he
      obtain ⟨A, c, rfl, hs, hlow⟩ := own_sl hO.out
      clear hO
      go_wp2
      go_ret
      exact ⟨hB.out, A, c, rfl, hs, fun a e => by have := hlow a e; omega⟩
end Go.Proofs.Ythbagegkcpblgaa
