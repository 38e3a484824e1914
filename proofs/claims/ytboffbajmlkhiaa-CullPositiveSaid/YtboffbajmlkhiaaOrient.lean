/- Orient of package cull. -/
import Derived.Test.YtboffbajmlkhiaaSameT
import Derived.Test.YtboffbajmlkhiaaCullExch
import Derived.Test.YtboffbajmlkhiaaStSub
namespace Go.Proofs.Ytboffbajmlkhiaa
open Go.RowKit
/-- The cells of a list lie below what is new. -/
theorem sl_lt {W : World} {A : Option Addr} {n c : Nat} {f : Nat → Int} (h : Sl W A n c f) : ∀ a, A = some a → 0 < n → a.block < W.heap.size := fun a e h0 => by
  obtain ⟨b, e', hl⟩ := h.lies h0
  obtain rfl := Option.some.inj (e.symm.trans e')
  exact hl.lt h0
theorem Sl.setN {W : World} {A : Option Addr} {n c : Nat} {f : Nat → Int} (h : Sl W A n c f) {p : Addr} (hp : ∀ a, A = Option.some a → 0 < n → a.block ≠ p.block) (u : Value) : Sl (W.setCell p u) A n c f :=
  ⟨h.nil, fun h0 => by
    obtain ⟨a, e, hl⟩ := h.lies h0
    refine ⟨a, e, fun h1 => by simpa using hl.lt h1, fun i hi => ?_⟩
    rw [← hl.at_ i hi]
    refine World.cell?_of_block ?_
    rw [Go.ChangeShapes.block_add]
    exact Below.heap_setCell W p u a.block (hp a e h0)⟩
theorem Sl.setRowN {W : World} {A : Option Addr} {n c : Nat} {f : Nat → Int} (h : Sl W A n c f) {b : Nat} (hp : ∀ a, A = Option.some a → 0 < n → a.block < b) (cs : Array Value) : Sl (W.setRow b cs) A n c f :=
  ⟨h.nil, fun h0 => by
    obtain ⟨a, e, hl⟩ := h.lies h0
    refine ⟨a, e, fun h1 => by simpa [World.setRow] using hl.lt h1, fun i hi => ?_⟩
    rw [← hl.at_ i hi]
    refine World.cell?_of_block ?_
    rw [Go.ChangeShapes.block_add]
    have hne : b ≠ a.block := by have := hp a e h0; omega
    simp [World.setRow, Array.getElem?_modify, hne]⟩
set_option maxRecDepth 100000 in
set_option maxHeartbeats 16000000 in
theorem orient_keep (x0 y0 z0 u0 x1 y1 z1 u1 x2 y2 z2 u2 : Int) (n0 n1 n2 : Nat) (h0 : n0 ≤ 17592186043904) (h1 : n1 ≤ 17592186043904) (h2 : n2 ≤ 17592186043904) (f0 f1 f2 : Nat → Int) (A0 A1 A2 : Option Addr) (c0 c1 c2 : Nat) (w : World) (k0 : Sl w A0 n0 c0 f0) (k1 : Sl w A1 n1 c1 f1) (k2 : Sl w A2 n2 c2 f2) (hn : 0 ≤ areaI x0 y0 x1 y1 x2 y2) :
    Calls Try.prog 22 #[.agg #[.int .i64 x0, .int .i64 y0, .int .i64 z0, .int .i64 u0, .slice A0 n0 c0, .int .i64 x1, .int .i64 y1, .int .i64 z1, .int .i64 u1, .slice A1 n1 c1, .int .i64 x2, .int .i64 y2, .int .i64 z2, .int .i64 u2, .slice A2 n2 c2]] w fun e w' => Below w.heap.size w w' ∧ ∃ B0 B1 B2 d0 d1 d2, e = .returned (.agg #[.int .i64 x0, .int .i64 y0, .int .i64 z0, .int .i64 u0, .slice B0 n0 d0, .int .i64 x1, .int .i64 y1, .int .i64 z1, .int .i64 u1, .slice B1 n1 d1, .int .i64 x2, .int .i64 y2, .int .i64 z2, .int .i64 u2, .slice B2 n2 d2]) ∧ Sl w' B0 n0 d0 f0 ∧ Sl w' B1 n1 d1 f1 ∧ Sl w' B2 n2 d2 f2 ∧ (∀ a, B0 = some a → w.heap.size ≤ a.block) ∧ (∀ a, B1 = some a → w.heap.size ≤ a.block) ∧ (∀ a, B2 = some a → w.heap.size ≤ a.block) := by
  have v0 : Hid (∀ a, A0 = some a → 0 < n0 → a.block < w.heap.size) := Lib.hid (sl_lt k0)
  have v1 : Hid (∀ a, A1 = some a → 0 < n1 → a.block < w.heap.size) := Lib.hid (sl_lt k1)
  have v2 : Hid (∀ a, A2 = some a → 0 < n2 → a.block < w.heap.size) := Lib.hid (sl_lt k2)
  obtain ⟨a, har⟩ : ∃ a, areaI x0 y0 x1 y1 x2 y2 = a := ⟨_, rfl⟩
  rw [har] at hn
  replace har := Lib.hid har
  have ha := Lib.hid ((Blk.new w 25 #[.int .i64 x0, .int .i64 y0, .int .i64 z0, .int .i64 u0, .slice A0 n0 c0, .int .i64 x1, .int .i64 y1, .int .i64 z1, .int .i64 u1, .slice A1 n1 c1, .int .i64 x2, .int .i64 y2, .int .i64 z2, .int .i64 u2, .slice A2 n2 c2]).alloc (.cells #[.int .i64 0, .int .i64 0, .int .i64 0, .int .i64 0, .slice none 0 0, .int .i64 0, .int .i64 0, .int .i64 0, .int .i64 0, .slice none 0 0, .int .i64 0, .int .i64 0, .int .i64 0, .int .i64 0, .slice none 0 0] 25))
  have hb := Lib.hid (Blk.new1 w 25 #[.int .i64 0, .int .i64 0, .int .i64 0, .int .i64 0, .slice none 0 0, .int .i64 0, .int .i64 0, .int .i64 0, .int .i64 0, .slice none 0 0, .int .i64 0, .int .i64 0, .int .i64 0, .int .i64 0, .slice none 0 0] (.cells #[.int .i64 x0, .int .i64 y0, .int .i64 z0, .int .i64 u0, .slice A0 n0 c0, .int .i64 x1, .int .i64 y1, .int .i64 z1, .int .i64 u1, .slice A1 n1 c1, .int .i64 x2, .int .i64 y2, .int .i64 z2, .int .i64 u2, .slice A2 n2 c2] 25))
  have hB : Hid (Below w.heap.size w ((w.alloc (.cells #[.int .i64 x0, .int .i64 y0, .int .i64 z0, .int .i64 u0, .slice A0 n0 c0, .int .i64 x1, .int .i64 y1, .int .i64 z1, .int .i64 u1, .slice A1 n1 c1, .int .i64 x2, .int .i64 y2, .int .i64 z2, .int .i64 u2, .slice A2 n2 c2] 25)).alloc (.cells #[.int .i64 0, .int .i64 0, .int .i64 0, .int .i64 0, .slice none 0 0, .int .i64 0, .int .i64 0, .int .i64 0, .int .i64 0, .slice none 0 0, .int .i64 0, .int .i64 0, .int .i64 0, .int .i64 0, .slice none 0 0] 25))) := Lib.hid (by go_grown)
  replace k0 := Lib.hid (k0.call hB.out)
  replace k1 := Lib.hid (k1.call hB.out)
  replace k2 := Lib.hid (k2.call hB.out)
  go_enter Try.func22, Try.ntmps22
  go_wp2_with (refine wpList_load_row rfl 25 _ rfl _ rfl _ _ _ _ ha.out Try.underlying25 rfl t3Info ?_)
  refine (area_at _ _ _ _ _ _ _ _ _ _ _ _ _ _ _ _ _ _ _ _ _ _ _ har.out).mono ?_
  rintro e W0 ⟨rfl, hb2⟩
  replace ha := Lib.hid (ha.out.call hb2)
  replace hb := Lib.hid (hb.out.call hb2)
  replace hB := Lib.hid (below_on hB.out hb2)
  replace k0 := Lib.hid (k0.out.call hb2)
  replace k1 := Lib.hid (k1.out.call hb2)
  replace k2 := Lib.hid (k2.out.call hb2)
  clear hb2
  have hz := hb.out.lt
  go_wp2_with fail
  refine wp_loop_rounds 4 ?_
  rw [rounds_succ]
  have ca0 := ha.out.cell
  go_wp2_with (at_builtin; refine wpList_copy_sl rfl _ _ rfl W0.heap.size _ rfl (own_nil _ _) A0 n0 c0 f0 rfl k0.out (by omega) (Nat.le_refl _) ?_; intro B0 d0 X0 hs hbk hb2; clear ca0; have ca := (ha.out.call hb2).cell; have fa := (ha.out.call hb2).frozen; replace ha := (ha.out.call hb2).set_ 4 (.slice B0 n0 d0); replace hb := Lib.hid ((hb.out.call hb2).far (p := ⟨w.heap.size, 4, none⟩) (by simp) (.slice B0 n0 d0)); replace hB := Lib.hid ((below_on hB.out hb2).setCell (p := ⟨w.heap.size, 4, none⟩) (Nat.le_refl _) (.slice B0 n0 d0)); have s0 := Lib.hid (hs.set (p := ⟨w.heap.size, 4, none⟩) (fun a e => by have := hbk a e; simp; omega) (.slice B0 n0 d0)); have b0 : Hid (∀ a, B0 = some a → w.heap.size + 1 < a.block) := Lib.hid (fun a e => by have := hbk a e; omega); replace k1 := Lib.hid ((k1.out.call hb2).setN (p := ⟨w.heap.size, 4, none⟩) (fun a e h => by have := v1.out a e h; simp; omega) (.slice B0 n0 d0)); replace k2 := Lib.hid ((k2.out.call hb2).setN (p := ⟨w.heap.size, 4, none⟩) (fun a e h => by have := v2.out a e h; simp; omega) (.slice B0 n0 d0)); replace ha : Hid (Blk _ w.heap.size 25 #[.int .i64 x0, .int .i64 y0, .int .i64 z0, .int .i64 u0, .slice B0 n0 d0, .int .i64 x1, .int .i64 y1, .int .i64 z1, .int .i64 u1, .slice A1 n1 c1, .int .i64 x2, .int .i64 y2, .int .i64 z2, .int .i64 u2, .slice A2 n2 c2]) := Lib.hid ha; clear hs hbk hb2 k0)
  clear ca fa
  generalize X0.setCell ⟨w.heap.size, 4, none⟩ (.slice B0 n0 d0) = W1 at *
  replace hz := hb.out.lt
  rw [rounds_succ]
  have ca0 := ha.out.cell
  go_wp2_with (at_builtin; refine wpList_copy_sl rfl _ _ rfl W1.heap.size _ rfl (own_nil _ _) A1 n1 c1 f1 rfl k1.out (by omega) (Nat.le_refl _) ?_; intro B1 d1 X1 hs hbk hb2; clear ca0; have ca := (ha.out.call hb2).cell; have fa := (ha.out.call hb2).frozen; replace ha := (ha.out.call hb2).set_ 9 (.slice B1 n1 d1); replace hb := Lib.hid ((hb.out.call hb2).far (p := ⟨w.heap.size, 9, none⟩) (by simp) (.slice B1 n1 d1)); replace hB := Lib.hid ((below_on hB.out hb2).setCell (p := ⟨w.heap.size, 9, none⟩) (Nat.le_refl _) (.slice B1 n1 d1)); have s1 := Lib.hid (hs.set (p := ⟨w.heap.size, 9, none⟩) (fun a e => by have := hbk a e; simp; omega) (.slice B1 n1 d1)); have b1 : Hid (∀ a, B1 = some a → w.heap.size + 1 < a.block) := Lib.hid (fun a e => by have := hbk a e; omega); replace s0 := Lib.hid ((s0.out.call hb2).set (p := ⟨w.heap.size, 9, none⟩) (fun a e => by have := b0.out a e; simp; omega) (.slice B1 n1 d1)); replace k2 := Lib.hid ((k2.out.call hb2).setN (p := ⟨w.heap.size, 9, none⟩) (fun a e h => by have := v2.out a e h; simp; omega) (.slice B1 n1 d1)); replace ha : Hid (Blk _ w.heap.size 25 #[.int .i64 x0, .int .i64 y0, .int .i64 z0, .int .i64 u0, .slice B0 n0 d0, .int .i64 x1, .int .i64 y1, .int .i64 z1, .int .i64 u1, .slice B1 n1 d1, .int .i64 x2, .int .i64 y2, .int .i64 z2, .int .i64 u2, .slice A2 n2 c2]) := Lib.hid ha; clear hs hbk hb2 k1)
  clear ca fa
  generalize X1.setCell ⟨w.heap.size, 9, none⟩ (.slice B1 n1 d1) = W2 at *
  replace hz := hb.out.lt
  rw [rounds_succ]
  have ca0 := ha.out.cell
  go_wp2_with (at_builtin; refine wpList_copy_sl rfl _ _ rfl W2.heap.size _ rfl (own_nil _ _) A2 n2 c2 f2 rfl k2.out (by omega) (Nat.le_refl _) ?_; intro B2 d2 X2 hs hbk hb2; clear ca0; have ca := (ha.out.call hb2).cell; have fa := (ha.out.call hb2).frozen; replace ha := (ha.out.call hb2).set_ 14 (.slice B2 n2 d2); replace hb := Lib.hid ((hb.out.call hb2).far (p := ⟨w.heap.size, 14, none⟩) (by simp) (.slice B2 n2 d2)); replace hB := Lib.hid ((below_on hB.out hb2).setCell (p := ⟨w.heap.size, 14, none⟩) (Nat.le_refl _) (.slice B2 n2 d2)); have s2 := Lib.hid (hs.set (p := ⟨w.heap.size, 14, none⟩) (fun a e => by have := hbk a e; simp; omega) (.slice B2 n2 d2)); have b2 : Hid (∀ a, B2 = some a → w.heap.size + 1 < a.block) := Lib.hid (fun a e => by have := hbk a e; omega); replace s0 := Lib.hid ((s0.out.call hb2).set (p := ⟨w.heap.size, 14, none⟩) (fun a e => by have := b0.out a e; simp; omega) (.slice B2 n2 d2)); replace s1 := Lib.hid ((s1.out.call hb2).set (p := ⟨w.heap.size, 14, none⟩) (fun a e => by have := b1.out a e; simp; omega) (.slice B2 n2 d2)); replace ha : Hid (Blk _ w.heap.size 25 #[.int .i64 x0, .int .i64 y0, .int .i64 z0, .int .i64 u0, .slice B0 n0 d0, .int .i64 x1, .int .i64 y1, .int .i64 z1, .int .i64 u1, .slice B1 n1 d1, .int .i64 x2, .int .i64 y2, .int .i64 z2, .int .i64 u2, .slice B2 n2 d2]) := Lib.hid ha; clear hs hbk hb2 k2)
  clear ca fa
  generalize X2.setCell ⟨w.heap.size, 14, none⟩ (.slice B2 n2 d2) = W3 at *
  replace hz := hb.out.lt
  rw [rounds_succ]
  go_wp2_with (first | refine wpList_load_row rfl 25 _ rfl _ rfl _ _ _ _ ha.out Try.underlying25 rfl t3Info ?_ | refine wpList_store_row rfl 25 _ _ rfl (w.heap.size + 1) #[.int .i64 x0, .int .i64 y0, .int .i64 z0, .int .i64 u0, .slice B0 n0 d0, .int .i64 x1, .int .i64 y1, .int .i64 z1, .int .i64 u1, .slice B1 n1 d1, .int .i64 x2, .int .i64 y2, .int .i64 z2, .int .i64 u2, .slice B2 n2 d2] rfl rfl 25 _ hb.out t3Info rfl (by kernel_rfl) ?_)
  refine bodyPost_ret (results_cell_row rfl _ _ (w.heap.size + 1) _ #[.int .i64 x0, .int .i64 y0, .int .i64 z0, .int .i64 u0, .slice B0 n0 d0, .int .i64 x1, .int .i64 y1, .int .i64 z1, .int .i64 u1, .slice B1 n1 d1, .int .i64 x2, .int .i64 y2, .int .i64 z2, .int .i64 u2, .slice B2 n2 d2] _ _ rfl (hb.out.setRow _) Try.underlying25 rfl t3Info) rfl ?_
  exact ⟨below_setRow hB.out (by omega) _, B0, B1, B2, d0, d1, d2, rfl, s0.out.setRow (fun a e => by have := b0.out a e; omega) _, s1.out.setRow (fun a e => by have := b1.out a e; omega) _, s2.out.setRow (fun a e => by have := b2.out a e; omega) _, fun a e => by have := b0.out a e; omega, fun a e => by have := b1.out a e; omega, fun a e => by have := b2.out a e; omega⟩
set_option maxRecDepth 100000 in
set_option maxHeartbeats 16000000 in
theorem orient_swap (x0 y0 z0 u0 x1 y1 z1 u1 x2 y2 z2 u2 : Int) (n0 n1 n2 : Nat) (h0 : n0 ≤ 17592186043904) (h1 : n1 ≤ 17592186043904) (h2 : n2 ≤ 17592186043904) (f0 f1 f2 : Nat → Int) (A0 A1 A2 : Option Addr) (c0 c1 c2 : Nat) (w : World) (k0 : Sl w A0 n0 c0 f0) (k1 : Sl w A1 n1 c1 f1) (k2 : Sl w A2 n2 c2 f2) (hn : areaI x0 y0 x1 y1 x2 y2 < 0) :
    Calls Try.prog 22 #[.agg #[.int .i64 x0, .int .i64 y0, .int .i64 z0, .int .i64 u0, .slice A0 n0 c0, .int .i64 x1, .int .i64 y1, .int .i64 z1, .int .i64 u1, .slice A1 n1 c1, .int .i64 x2, .int .i64 y2, .int .i64 z2, .int .i64 u2, .slice A2 n2 c2]] w fun e w' => Below w.heap.size w w' ∧ ∃ B0 B1 B2 d0 d1 d2, e = .returned (.agg #[.int .i64 x0, .int .i64 y0, .int .i64 z0, .int .i64 u0, .slice B0 n0 d0, .int .i64 x2, .int .i64 y2, .int .i64 z2, .int .i64 u2, .slice B2 n2 d2, .int .i64 x1, .int .i64 y1, .int .i64 z1, .int .i64 u1, .slice B1 n1 d1]) ∧ Sl w' B0 n0 d0 f0 ∧ Sl w' B1 n1 d1 f1 ∧ Sl w' B2 n2 d2 f2 ∧ (∀ a, B0 = some a → w.heap.size ≤ a.block) ∧ (∀ a, B1 = some a → w.heap.size ≤ a.block) ∧ (∀ a, B2 = some a → w.heap.size ≤ a.block) := by
  have v0 : Hid (∀ a, A0 = some a → 0 < n0 → a.block < w.heap.size) := Lib.hid (sl_lt k0)
  have v1 : Hid (∀ a, A1 = some a → 0 < n1 → a.block < w.heap.size) := Lib.hid (sl_lt k1)
  have v2 : Hid (∀ a, A2 = some a → 0 < n2 → a.block < w.heap.size) := Lib.hid (sl_lt k2)
  obtain ⟨a, har⟩ : ∃ a, areaI x0 y0 x1 y1 x2 y2 = a := ⟨_, rfl⟩
  rw [har] at hn
  replace har := Lib.hid har
  have ha := Lib.hid ((Blk.new w 25 #[.int .i64 x0, .int .i64 y0, .int .i64 z0, .int .i64 u0, .slice A0 n0 c0, .int .i64 x1, .int .i64 y1, .int .i64 z1, .int .i64 u1, .slice A1 n1 c1, .int .i64 x2, .int .i64 y2, .int .i64 z2, .int .i64 u2, .slice A2 n2 c2]).alloc (.cells #[.int .i64 0, .int .i64 0, .int .i64 0, .int .i64 0, .slice none 0 0, .int .i64 0, .int .i64 0, .int .i64 0, .int .i64 0, .slice none 0 0, .int .i64 0, .int .i64 0, .int .i64 0, .int .i64 0, .slice none 0 0] 25))
  have hb := Lib.hid (Blk.new1 w 25 #[.int .i64 0, .int .i64 0, .int .i64 0, .int .i64 0, .slice none 0 0, .int .i64 0, .int .i64 0, .int .i64 0, .int .i64 0, .slice none 0 0, .int .i64 0, .int .i64 0, .int .i64 0, .int .i64 0, .slice none 0 0] (.cells #[.int .i64 x0, .int .i64 y0, .int .i64 z0, .int .i64 u0, .slice A0 n0 c0, .int .i64 x1, .int .i64 y1, .int .i64 z1, .int .i64 u1, .slice A1 n1 c1, .int .i64 x2, .int .i64 y2, .int .i64 z2, .int .i64 u2, .slice A2 n2 c2] 25))
  have hB : Hid (Below w.heap.size w ((w.alloc (.cells #[.int .i64 x0, .int .i64 y0, .int .i64 z0, .int .i64 u0, .slice A0 n0 c0, .int .i64 x1, .int .i64 y1, .int .i64 z1, .int .i64 u1, .slice A1 n1 c1, .int .i64 x2, .int .i64 y2, .int .i64 z2, .int .i64 u2, .slice A2 n2 c2] 25)).alloc (.cells #[.int .i64 0, .int .i64 0, .int .i64 0, .int .i64 0, .slice none 0 0, .int .i64 0, .int .i64 0, .int .i64 0, .int .i64 0, .slice none 0 0, .int .i64 0, .int .i64 0, .int .i64 0, .int .i64 0, .slice none 0 0] 25))) := Lib.hid (by go_grown)
  replace k0 := Lib.hid (k0.call hB.out)
  replace k1 := Lib.hid (k1.call hB.out)
  replace k2 := Lib.hid (k2.call hB.out)
  go_enter Try.func22, Try.ntmps22
  go_wp2_with (refine wpList_load_row rfl 25 _ rfl _ rfl _ _ _ _ ha.out Try.underlying25 rfl t3Info ?_)
  refine (area_at _ _ _ _ _ _ _ _ _ _ _ _ _ _ _ _ _ _ _ _ _ _ _ har.out).mono ?_
  rintro e W0 ⟨rfl, hb2⟩
  replace ha := Lib.hid (ha.out.call hb2)
  replace hb := Lib.hid (hb.out.call hb2)
  replace hB := Lib.hid (below_on hB.out hb2)
  replace k0 := Lib.hid (k0.out.call hb2)
  replace k1 := Lib.hid (k1.out.call hb2)
  replace k2 := Lib.hid (k2.out.call hb2)
  clear hb2
  have hz := hb.out.lt
  go_wp2_with (first | refine wpList_load_sub rfl 24 _ rfl _ 10 rfl _ _ #[.int .i64 x2, .int .i64 y2, .int .i64 z2, .int .i64 u2, .slice A2 n2 c2] _ _ ha.out rfl Try.underlying24 rfl vInfo ?_ | refine wpList_load_sub rfl 24 _ rfl _ 5 rfl _ _ #[.int .i64 x1, .int .i64 y1, .int .i64 z1, .int .i64 u1, .slice A1 n1 c1] _ _ ha.out rfl Try.underlying24 rfl vInfo ?_ | refine wpList_store_sub rfl 24 _ _ rfl w.heap.size 5 #[.int .i64 x2, .int .i64 y2, .int .i64 z2, .int .i64 u2, .slice A2 n2 c2] rfl rfl 25 _ ha.out vInfo (by simp) (by kernel_rfl) #[.int .i64 x0, .int .i64 y0, .int .i64 z0, .int .i64 u0, .slice A0 n0 c0, .int .i64 x2, .int .i64 y2, .int .i64 z2, .int .i64 u2, .slice A2 n2 c2, .int .i64 x2, .int .i64 y2, .int .i64 z2, .int .i64 u2, .slice A2 n2 c2] (by kernel_rfl) ?_ | refine wpList_store_sub rfl 24 _ _ rfl w.heap.size 10 #[.int .i64 x1, .int .i64 y1, .int .i64 z1, .int .i64 u1, .slice A1 n1 c1] rfl rfl 25 _ (ha.out.setRow #[.int .i64 x0, .int .i64 y0, .int .i64 z0, .int .i64 u0, .slice A0 n0 c0, .int .i64 x2, .int .i64 y2, .int .i64 z2, .int .i64 u2, .slice A2 n2 c2, .int .i64 x2, .int .i64 y2, .int .i64 z2, .int .i64 u2, .slice A2 n2 c2]) vInfo (by simp) (by kernel_rfl) #[.int .i64 x0, .int .i64 y0, .int .i64 z0, .int .i64 u0, .slice A0 n0 c0, .int .i64 x2, .int .i64 y2, .int .i64 z2, .int .i64 u2, .slice A2 n2 c2, .int .i64 x1, .int .i64 y1, .int .i64 z1, .int .i64 u1, .slice A1 n1 c1] (by kernel_rfl) ?_)
  replace ha := Lib.hid ((ha.out.setRow #[.int .i64 x0, .int .i64 y0, .int .i64 z0, .int .i64 u0, .slice A0 n0 c0, .int .i64 x2, .int .i64 y2, .int .i64 z2, .int .i64 u2, .slice A2 n2 c2, .int .i64 x2, .int .i64 y2, .int .i64 z2, .int .i64 u2, .slice A2 n2 c2]).setRow #[.int .i64 x0, .int .i64 y0, .int .i64 z0, .int .i64 u0, .slice A0 n0 c0, .int .i64 x2, .int .i64 y2, .int .i64 z2, .int .i64 u2, .slice A2 n2 c2, .int .i64 x1, .int .i64 y1, .int .i64 z1, .int .i64 u1, .slice A1 n1 c1])
  replace hb := Lib.hid ((hb.out.farRow (c := w.heap.size) (by simp) #[.int .i64 x0, .int .i64 y0, .int .i64 z0, .int .i64 u0, .slice A0 n0 c0, .int .i64 x2, .int .i64 y2, .int .i64 z2, .int .i64 u2, .slice A2 n2 c2, .int .i64 x2, .int .i64 y2, .int .i64 z2, .int .i64 u2, .slice A2 n2 c2]).farRow (c := w.heap.size) (by simp) #[.int .i64 x0, .int .i64 y0, .int .i64 z0, .int .i64 u0, .slice A0 n0 c0, .int .i64 x2, .int .i64 y2, .int .i64 z2, .int .i64 u2, .slice A2 n2 c2, .int .i64 x1, .int .i64 y1, .int .i64 z1, .int .i64 u1, .slice A1 n1 c1])
  replace hB := Lib.hid (below_setRow (below_setRow hB.out (Nat.le_refl _) #[.int .i64 x0, .int .i64 y0, .int .i64 z0, .int .i64 u0, .slice A0 n0 c0, .int .i64 x2, .int .i64 y2, .int .i64 z2, .int .i64 u2, .slice A2 n2 c2, .int .i64 x2, .int .i64 y2, .int .i64 z2, .int .i64 u2, .slice A2 n2 c2]) (Nat.le_refl _) #[.int .i64 x0, .int .i64 y0, .int .i64 z0, .int .i64 u0, .slice A0 n0 c0, .int .i64 x2, .int .i64 y2, .int .i64 z2, .int .i64 u2, .slice A2 n2 c2, .int .i64 x1, .int .i64 y1, .int .i64 z1, .int .i64 u1, .slice A1 n1 c1])
  replace k0 := Lib.hid ((k0.out.setRowN (v0.out) #[.int .i64 x0, .int .i64 y0, .int .i64 z0, .int .i64 u0, .slice A0 n0 c0, .int .i64 x2, .int .i64 y2, .int .i64 z2, .int .i64 u2, .slice A2 n2 c2, .int .i64 x2, .int .i64 y2, .int .i64 z2, .int .i64 u2, .slice A2 n2 c2]).setRowN (v0.out) #[.int .i64 x0, .int .i64 y0, .int .i64 z0, .int .i64 u0, .slice A0 n0 c0, .int .i64 x2, .int .i64 y2, .int .i64 z2, .int .i64 u2, .slice A2 n2 c2, .int .i64 x1, .int .i64 y1, .int .i64 z1, .int .i64 u1, .slice A1 n1 c1])
  replace k1 := Lib.hid ((k1.out.setRowN (v1.out) #[.int .i64 x0, .int .i64 y0, .int .i64 z0, .int .i64 u0, .slice A0 n0 c0, .int .i64 x2, .int .i64 y2, .int .i64 z2, .int .i64 u2, .slice A2 n2 c2, .int .i64 x2, .int .i64 y2, .int .i64 z2, .int .i64 u2, .slice A2 n2 c2]).setRowN (v1.out) #[.int .i64 x0, .int .i64 y0, .int .i64 z0, .int .i64 u0, .slice A0 n0 c0, .int .i64 x2, .int .i64 y2, .int .i64 z2, .int .i64 u2, .slice A2 n2 c2, .int .i64 x1, .int .i64 y1, .int .i64 z1, .int .i64 u1, .slice A1 n1 c1])
  replace k2 := Lib.hid ((k2.out.setRowN (v2.out) #[.int .i64 x0, .int .i64 y0, .int .i64 z0, .int .i64 u0, .slice A0 n0 c0, .int .i64 x2, .int .i64 y2, .int .i64 z2, .int .i64 u2, .slice A2 n2 c2, .int .i64 x2, .int .i64 y2, .int .i64 z2, .int .i64 u2, .slice A2 n2 c2]).setRowN (v2.out) #[.int .i64 x0, .int .i64 y0, .int .i64 z0, .int .i64 u0, .slice A0 n0 c0, .int .i64 x2, .int .i64 y2, .int .i64 z2, .int .i64 u2, .slice A2 n2 c2, .int .i64 x1, .int .i64 y1, .int .i64 z1, .int .i64 u1, .slice A1 n1 c1])
  generalize (W0.setRow w.heap.size #[.int .i64 x0, .int .i64 y0, .int .i64 z0, .int .i64 u0, .slice A0 n0 c0, .int .i64 x2, .int .i64 y2, .int .i64 z2, .int .i64 u2, .slice A2 n2 c2, .int .i64 x2, .int .i64 y2, .int .i64 z2, .int .i64 u2, .slice A2 n2 c2]).setRow w.heap.size #[.int .i64 x0, .int .i64 y0, .int .i64 z0, .int .i64 u0, .slice A0 n0 c0, .int .i64 x2, .int .i64 y2, .int .i64 z2, .int .i64 u2, .slice A2 n2 c2, .int .i64 x1, .int .i64 y1, .int .i64 z1, .int .i64 u1, .slice A1 n1 c1] = W0' at *
  replace hz := hb.out.lt
  refine wp_loop_rounds 4 ?_
  rw [rounds_succ]
  have ca0 := ha.out.cell
  go_wp2_with (at_builtin; refine wpList_copy_sl rfl _ _ rfl W0'.heap.size _ rfl (own_nil _ _) A0 n0 c0 f0 rfl k0.out (by omega) (Nat.le_refl _) ?_; intro B0 d0 X0 hs hbk hb2; clear ca0; have ca := (ha.out.call hb2).cell; have fa := (ha.out.call hb2).frozen; replace ha := (ha.out.call hb2).set_ 4 (.slice B0 n0 d0); replace hb := Lib.hid ((hb.out.call hb2).far (p := ⟨w.heap.size, 4, none⟩) (by simp) (.slice B0 n0 d0)); replace hB := Lib.hid ((below_on hB.out hb2).setCell (p := ⟨w.heap.size, 4, none⟩) (Nat.le_refl _) (.slice B0 n0 d0)); have s0 := Lib.hid (hs.set (p := ⟨w.heap.size, 4, none⟩) (fun a e => by have := hbk a e; simp; omega) (.slice B0 n0 d0)); have b0 : Hid (∀ a, B0 = some a → w.heap.size + 1 < a.block) := Lib.hid (fun a e => by have := hbk a e; omega); replace k2 := Lib.hid ((k2.out.call hb2).setN (p := ⟨w.heap.size, 4, none⟩) (fun a e h => by have := v2.out a e h; simp; omega) (.slice B0 n0 d0)); replace k1 := Lib.hid ((k1.out.call hb2).setN (p := ⟨w.heap.size, 4, none⟩) (fun a e h => by have := v1.out a e h; simp; omega) (.slice B0 n0 d0)); replace ha : Hid (Blk _ w.heap.size 25 #[.int .i64 x0, .int .i64 y0, .int .i64 z0, .int .i64 u0, .slice B0 n0 d0, .int .i64 x2, .int .i64 y2, .int .i64 z2, .int .i64 u2, .slice A2 n2 c2, .int .i64 x1, .int .i64 y1, .int .i64 z1, .int .i64 u1, .slice A1 n1 c1]) := Lib.hid ha; clear hs hbk hb2 k0)
  clear ca fa
  generalize X0.setCell ⟨w.heap.size, 4, none⟩ (.slice B0 n0 d0) = W1 at *
  replace hz := hb.out.lt
  rw [rounds_succ]
  have ca0 := ha.out.cell
  go_wp2_with (at_builtin; refine wpList_copy_sl rfl _ _ rfl W1.heap.size _ rfl (own_nil _ _) A2 n2 c2 f2 rfl k2.out (by omega) (Nat.le_refl _) ?_; intro B2 d2 X1 hs hbk hb2; clear ca0; have ca := (ha.out.call hb2).cell; have fa := (ha.out.call hb2).frozen; replace ha := (ha.out.call hb2).set_ 9 (.slice B2 n2 d2); replace hb := Lib.hid ((hb.out.call hb2).far (p := ⟨w.heap.size, 9, none⟩) (by simp) (.slice B2 n2 d2)); replace hB := Lib.hid ((below_on hB.out hb2).setCell (p := ⟨w.heap.size, 9, none⟩) (Nat.le_refl _) (.slice B2 n2 d2)); have s2 := Lib.hid (hs.set (p := ⟨w.heap.size, 9, none⟩) (fun a e => by have := hbk a e; simp; omega) (.slice B2 n2 d2)); have b2 : Hid (∀ a, B2 = some a → w.heap.size + 1 < a.block) := Lib.hid (fun a e => by have := hbk a e; omega); replace s0 := Lib.hid ((s0.out.call hb2).set (p := ⟨w.heap.size, 9, none⟩) (fun a e => by have := b0.out a e; simp; omega) (.slice B2 n2 d2)); replace k1 := Lib.hid ((k1.out.call hb2).setN (p := ⟨w.heap.size, 9, none⟩) (fun a e h => by have := v1.out a e h; simp; omega) (.slice B2 n2 d2)); replace ha : Hid (Blk _ w.heap.size 25 #[.int .i64 x0, .int .i64 y0, .int .i64 z0, .int .i64 u0, .slice B0 n0 d0, .int .i64 x2, .int .i64 y2, .int .i64 z2, .int .i64 u2, .slice B2 n2 d2, .int .i64 x1, .int .i64 y1, .int .i64 z1, .int .i64 u1, .slice A1 n1 c1]) := Lib.hid ha; clear hs hbk hb2 k2)
  clear ca fa
  generalize X1.setCell ⟨w.heap.size, 9, none⟩ (.slice B2 n2 d2) = W2 at *
  replace hz := hb.out.lt
  rw [rounds_succ]
  have ca0 := ha.out.cell
  go_wp2_with (at_builtin; refine wpList_copy_sl rfl _ _ rfl W2.heap.size _ rfl (own_nil _ _) A1 n1 c1 f1 rfl k1.out (by omega) (Nat.le_refl _) ?_; intro B1 d1 X2 hs hbk hb2; clear ca0; have ca := (ha.out.call hb2).cell; have fa := (ha.out.call hb2).frozen; replace ha := (ha.out.call hb2).set_ 14 (.slice B1 n1 d1); replace hb := Lib.hid ((hb.out.call hb2).far (p := ⟨w.heap.size, 14, none⟩) (by simp) (.slice B1 n1 d1)); replace hB := Lib.hid ((below_on hB.out hb2).setCell (p := ⟨w.heap.size, 14, none⟩) (Nat.le_refl _) (.slice B1 n1 d1)); have s1 := Lib.hid (hs.set (p := ⟨w.heap.size, 14, none⟩) (fun a e => by have := hbk a e; simp; omega) (.slice B1 n1 d1)); have b1 : Hid (∀ a, B1 = some a → w.heap.size + 1 < a.block) := Lib.hid (fun a e => by have := hbk a e; omega); replace s0 := Lib.hid ((s0.out.call hb2).set (p := ⟨w.heap.size, 14, none⟩) (fun a e => by have := b0.out a e; simp; omega) (.slice B1 n1 d1)); replace s2 := Lib.hid ((s2.out.call hb2).set (p := ⟨w.heap.size, 14, none⟩) (fun a e => by have := b2.out a e; simp; omega) (.slice B1 n1 d1)); replace ha : Hid (Blk _ w.heap.size 25 #[.int .i64 x0, .int .i64 y0, .int .i64 z0, .int .i64 u0, .slice B0 n0 d0, .int .i64 x2, .int .i64 y2, .int .i64 z2, .int .i64 u2, .slice B2 n2 d2, .int .i64 x1, .int .i64 y1, .int .i64 z1, .int .i64 u1, .slice B1 n1 d1]) := Lib.hid ha; clear hs hbk hb2 k1)
  clear ca fa
  generalize X2.setCell ⟨w.heap.size, 14, none⟩ (.slice B1 n1 d1) = W3 at *
  replace hz := hb.out.lt
  rw [rounds_succ]
  go_wp2_with (first | refine wpList_load_row rfl 25 _ rfl _ rfl _ _ _ _ ha.out Try.underlying25 rfl t3Info ?_ | refine wpList_store_row rfl 25 _ _ rfl (w.heap.size + 1) #[.int .i64 x0, .int .i64 y0, .int .i64 z0, .int .i64 u0, .slice B0 n0 d0, .int .i64 x2, .int .i64 y2, .int .i64 z2, .int .i64 u2, .slice B2 n2 d2, .int .i64 x1, .int .i64 y1, .int .i64 z1, .int .i64 u1, .slice B1 n1 d1] rfl rfl 25 _ hb.out t3Info rfl (by kernel_rfl) ?_)
  refine bodyPost_ret (results_cell_row rfl _ _ (w.heap.size + 1) _ #[.int .i64 x0, .int .i64 y0, .int .i64 z0, .int .i64 u0, .slice B0 n0 d0, .int .i64 x2, .int .i64 y2, .int .i64 z2, .int .i64 u2, .slice B2 n2 d2, .int .i64 x1, .int .i64 y1, .int .i64 z1, .int .i64 u1, .slice B1 n1 d1] _ _ rfl (hb.out.setRow _) Try.underlying25 rfl t3Info) rfl ?_
  exact ⟨below_setRow hB.out (by omega) _, B0, B1, B2, d0, d1, d2, rfl, s0.out.setRow (fun a e => by have := b0.out a e; omega) _, s1.out.setRow (fun a e => by have := b1.out a e; omega) _, s2.out.setRow (fun a e => by have := b2.out a e; omega) _, fun a e => by have := b0.out a e; omega, fun a e => by have := b1.out a e; omega, fun a e => by have := b2.out a e; omega⟩
end Go.Proofs.Ytboffbajmlkhiaa
