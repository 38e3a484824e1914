/- minus of package varying, differences of the reference. -/
import Derived.Test.YthbagegkcpblgaaVar6
namespace Go.Proofs.Ythbagegkcpblgaa
open Go.RowKit
attribute [local go_sem] Ext.cell
theorem r_fsub_bl (x y v : Int) (hv : fsub x y = v) (w : World) : Calls Try.prog 48 #[.int .i64 x, .int .i64 y] w fun e w' => e = .returned (.int .i64 v) ∧ Below w.heap.size w w' :=
  (r_fsub_at x y v w hv).mono fun _ _ ⟨h1, h2⟩ => ⟨h1, h2 ▸ Below.refl _ _⟩
theorem Sl.farS {W W' : World} {A : Option Addr} {n c g : Nat} {f : Nat → Int} (h : Sl W A n c f) (hb : Below g W W') (hl : ∀ a, A = Option.some a → 0 < n → a.block < g) : Sl W' A n c f :=
  ⟨h.nil, fun h0 => by
    obtain ⟨a, e, hl'⟩ := h.lies h0
    exact ⟨a, e, hl'.far hb fun _ => hl a e h0⟩⟩
set_option maxRecDepth 100000 in
set_option maxHeartbeats 16000000 in
theorem minus_yes (n : Nat) (hn : n ≤ 17592186043904) (f g V : Nat → Int) (hV : ∀ k, fsub (f k) (g k) = V k) (A B : Option Addr) (ca cb : Nat) (w : World) (k1 : Sl w A n ca f) (k2 : Sl w B n cb g) :
    Calls Try.prog 31 #[.slice A n ca, .slice B n cb] w fun e w' => Below w.heap.size w w' ∧ ∃ C c, e = .returned (.slice C n c) ∧ Sl w' C n c V ∧ ∀ a, C = some a → w.heap.size ≤ a.block := by
  replace hV := Lib.hid hV
  have nn0 : (0 : Int) ≤ n := by omega
  have nn1 : (n : Int) ≤ 17592186043904 := by omega
  have hmk : ∀ w : World, (Instr.makeSlice 22 (.int .i64 (n : Int)) (.int .i64 (n : Int))).run Try.prog w = .ok (.slice (some ⟨w.heap.size, 0, none⟩) n n) (w.alloc (.cells (rowOf n (fun _ => 0)) 3)) := fun w => make_intsL n hn w
  have hl1 : Hid (∀ a, A = some a → 0 < n → a.block < w.heap.size) := Lib.hid (sl_lt k1)
  have hl2 : Hid (∀ a, B = some a → 0 < n → a.block < w.heap.size) := Lib.hid (sl_lt k2)
  have hp := Lib.hid (Blk.new w 3 (rowOf n (fun _ => 0)))
  have hB : Hid (Below w.heap.size w (w.alloc (.cells (rowOf n (fun _ => 0)) 3))) := Lib.hid (by go_grown)
  replace k1 := Lib.hid (k1.alloc (.cells (rowOf n (fun _ => 0)) 3))
  replace k2 := Lib.hid (k2.alloc (.cells (rowOf n (fun _ => 0)) 3))
  go_enter Try.func31, Try.ntmps31
  go_wp2_with fail
  obtain ⟨s, hgg⟩ : ∃ s, w.heap.size = s := ⟨_, rfl⟩
  simp only [hgg] at hp hB hl1 hl2 ⊢
  generalize w.alloc (.cells (rowOf n (fun _ => 0)) 3) = X at *
  go_loopw [6, 12] (fun _ i wr => ∃ (k : Nat) (G : Nat → Int), k ≤ n ∧ i = .int .i64 k ∧ Hid (Upto k G V) ∧ Blk wr s 3 (rowOf n G) ∧ Sl wr A n ca f ∧ Sl wr B n cb g ∧ Below s w wr)
    (fun _ i _ => n - (intOf i).toNat)
  case atStart => exact ⟨0, _, by omega, rfl, Lib.hid (upto_zero _ V), hp.out, k1.out, k2.out, hB.out⟩
  case round =>
    clear hp k1 k2 hB
    obtain ⟨k, G, hkn, rfl, hU, hp, k1, k2, hB⟩ := hrel
    replace hp := Lib.hid hp
    replace k1 := Lib.hid k1
    replace k2 := Lib.hid k2
    replace hB := Lib.hid hB
    have hsz : s ≤ wr.heap.size := Nat.le_of_lt hp.out.lt
    by_cases hlt : k < n
    · have hlt' : (k : Int) < n := by omega
      obtain ⟨a, rfl, -, -⟩ := k1.out.get hlt
      obtain ⟨b, rfl, -, -⟩ := k2.out.get hlt
      have hv := hV.out k
      obtain ⟨x, hx⟩ : ∃ x, f k = x := ⟨_, rfl⟩
      obtain ⟨y, hy⟩ : ∃ y, g k = y := ⟨_, rfl⟩
      obtain ⟨v, hvv⟩ : ∃ v, V k = v := ⟨_, rfl⟩
      have hU2 := upto_succ hU.out
      rw [hvv] at hv hU2
      rw [hx, hy] at hv
      replace hU2 := Lib.hid hU2
      have hS := Lib.hid (fun w => fsub_at x y v w hv)
      clear hvv hv
      go_wp2_with fail
      refine' wp_region_fresh 11 [] (by kernel_rfl) (by kernel_rfl) (by simp) (by simp) (by simp) (by simp) ?hz ?h1 ?hs ?h2
      case hz =>
        intro z hz
        cases hz
      case h1 =>
        intro u hu
        have e1 : ∀ m : Ext u u.heap.size, m.val.cell? (a.add k) = some (.int .i64 x) := fun m => by
          obtain ⟨a', e, -, h⟩ := ((k1.out.call hu).call m.below).get hlt
          obtain rfl := Option.some.inj e
          rw [← hx]
          exact h
        have e2 : ∀ m : Ext u u.heap.size, m.val.cell? (b.add k) = some (.int .i64 y) := fun m => by
          obtain ⟨a', e, -, h⟩ := ((k2.out.call hu).call m.below).get hlt
          obtain rfl := Option.some.inj e
          rw [← hy]
          exact h
        simp only [List.take_succ_cons, List.take_zero, List.filter, isMk, isAl, isSt, Bool.or_false, Bool.not_false]
        repeat (go_big_quiet_step (first | (go_at_call 45; exact ext_same (hS.out _))))
        exact wpQuiet_nil rfl
      case hs =>
        intro z hz
        cases hz
      case h2 =>
      intro ℓ xw hlet
      obtain ⟨hbx, -, -⟩ := hlet
      dsimp only [List.drop, lay, List.foldl] at *
      replace hp := Lib.hid (hp.out.below hbx hp.out.lt)
      replace k1 := Lib.hid (k1.out.call hbx)
      replace k2 := Lib.hid (k2.out.call hbx)
      replace hB := Lib.hid (hB.out.trans (hbx.mono hsz))
      clear hbx hS hx hy
      have cp : xw.cell? ⟨s, k, none⟩ = some (.int .i64 (G k)) := by rw [hp.out.cell, rowOf_get hlt]
      have fp : xw.frozen? ⟨s, k, none⟩ = false := hp.out.frozen k
      have hp' : Hid (Blk (xw.setCell ⟨s, k, none⟩ (.int .i64 v)) s 3 (rowOf n (upd G k v))) := Lib.hid (by rw [← rowOf_set]; exact hp.out.set_ k _)
      have k1' := Lib.hid (k1.out.setN (p := ⟨s, k, none⟩) (fun a e h => by have := hl1.out a e h; simp; omega) (.int .i64 v))
      have k2' := Lib.hid (k2.out.setN (p := ⟨s, k, none⟩) (fun a e h => by have := hl2.out a e h; simp; omega) (.int .i64 v))
      have hB' := Lib.hid (hB.out.setCell (p := ⟨s, k, none⟩) (by simp) (.int .i64 v))
      clear hp k1 k2 hB
      go_wp2_with fail
      go_roundw
      case rel => exact ⟨k + 1, upd G k v, by omega, by go_num, hU2, hp'.out, k1'.out, k2'.out, hB'.out⟩
      case measure => simp [intOf]; omega
    · have he : k = n := by omega
      have hlt' : (n : Int) ≤ k := by omega
      subst he
      go_wp2
      go_ret
      rw [hgg]
      exact ⟨hB.out, some ⟨s, 0, none⟩, k, rfl, (sl_row hp.out k).congr hU.out, fun a e => by obtain rfl := Option.some.inj e; simp⟩
set_option maxRecDepth 100000 in
set_option maxHeartbeats 16000000 in
theorem diff_yes (n : Nat) (hn : n ≤ 17592186043904) (f g V : Nat → Int) (hV : ∀ k, fsub (f k) (g k) = V k) (A B : Option Addr) (ca cb : Nat) (w : World) (k1 : Sl w A n ca f) (k2 : Sl w B n cb g) :
    Calls Try.prog 34 #[.slice A n ca, .slice B n cb] w fun e w' => Below w.heap.size w w' ∧ ∃ C c, e = .returned (.slice C n c) ∧ Sl w' C n c V ∧ ∀ a, C = some a → w.heap.size ≤ a.block := by
  replace hV := Lib.hid hV
  have nn0 : (0 : Int) ≤ n := by omega
  have nn1 : (n : Int) ≤ 17592186043904 := by omega
  have hl1 : Hid (∀ a, A = some a → 0 < n → a.block < w.heap.size) := Lib.hid (sl_lt k1)
  have hl2 : Hid (∀ a, B = some a → 0 < n → a.block < w.heap.size) := Lib.hid (sl_lt k2)
  have hO := Lib.hid (own_nil w V)
  have hB : Hid (Below w.heap.size w w) := Lib.hid (Below.refl _ _)
  replace k1 := Lib.hid k1
  replace k2 := Lib.hid k2
  obtain ⟨s, hgg⟩ : ∃ s, w.heap.size = s := ⟨_, rfl⟩
  have hsz : s ≤ w.heap.size := Nat.le_of_eq hgg.symm
  rw [hgg] at hO hB hl1 hl2 ⊢
  clear hgg
  go_enter Try.func34, Try.ntmps34
  go_wp2_with fail
  go_loopw [5, 6] (fun u i wr => ∃ (k : Nat), k ≤ n ∧ i = .int .i64 k ∧ wr.ownsRow s 3 1 u k (intsOf V k) ∧ s ≤ wr.heap.size ∧ Sl wr A n ca f ∧ Sl wr B n cb g ∧ Below s w wr)
    (fun _ i _ => n - (intOf i).toNat)
  case atStart => exact ⟨0, by omega, rfl, hO.out, hsz, k1.out, k2.out, hB.out⟩
  case round =>
    clear k1 k2 hB hO hsz
    obtain ⟨k, hkn, rfl, hO, hsz, k1, k2, hB⟩ := hrel
    replace hO := Lib.hid hO
    replace k1 := Lib.hid k1
    replace k2 := Lib.hid k2
    replace hB := Lib.hid hB
    by_cases hlt : k < n
    · have hlt' : (k : Int) < n := by omega
      obtain ⟨a, rfl, -, ca'⟩ := k1.out.get hlt
      obtain ⟨b, rfl, -, cb'⟩ := k2.out.get hlt
      have ha := hl1.out a rfl (by omega)
      have hb := hl2.out b rfl (by omega)
      have hv := hV.out k
      obtain ⟨x, hx⟩ : ∃ x, f k = x := ⟨_, rfl⟩
      obtain ⟨y, hy⟩ : ∃ y, g k = y := ⟨_, rfl⟩
      obtain ⟨v, hvv⟩ : ∃ v, V k = v := ⟨_, rfl⟩
      rw [hvv, hx, hy] at hv
      rw [hx] at ca'
      rw [hy] at cb'
      replace hvv := Lib.hid (cat_one hvv)
      have e1 : ∀ m : Ext wr s, m.val.cell? (a.add k) = some (.int .i64 x) := fun m => by rw [m.below.cell (by rw [Go.ChangeShapes.block_add]; exact ha)]; exact ca'
      have e2 : ∀ m : Ext wr s, m.val.cell? (b.add k) = some (.int .i64 y) := fun m => by rw [m.below.cell (by rw [Go.ChangeShapes.block_add]; exact hb)]; exact cb'
      clear ca' cb' hx hy
      have hS := Lib.hid (fun w => r_fsub_bl x y v hv w)
      clear hv
      go_wp2_with fail
      clear hlt'
      refine wp_region_noPanic ?_
      refine wp_region_held_drew (S := fun w' => ∃ n : Ext wr (s), w' = n.val) (by kernel_rfl) ⟨⟨wr.drew, (Below.refl _ _).drew⟩, rfl⟩ (fun _ => ?_)
      refine held_quiets (fun _ _ _ _ _ h => h) (by kernel_rfl) ⟨⟨_, (((Below.refl _ _).drew).mono hsz)⟩, rfl⟩ [0, 1, 2, 3, 4, 5, 6, 7, 8] _ _ _ (by kernel_rfl) (by kernel_rfl) (of_decide_eq_true (by kernel_rfl)) ?_
      simp only [List.filterMap, List.getElem?_toArray, List.getElem?_cons_succ, List.getElem?_cons_zero]
      repeat (first | go_big_quiet_step (fail))
      refine wpQuiet_nil ?_
      refine held_heavy (i := 9) (by kernel_rfl) rfl (by rfl) (of_decide_eq_true (by kernel_rfl)) (fun K hK => ?_)
      go_simp
      refine (hS.out _).mono ?_
      rintro e U3 ⟨rfl, hv3⟩
      have hbU3 : Below wr.heap.size wr U3 := (((Below.refl _ _).drew).trans (hv3.mono (Nat.le_refl _)))
      refine hK _ _ ⟨⟨U3, (hbU3.mono hsz)⟩, rfl⟩ ?_
      clear hK K
      try simp only [Act.put, List.setIfInBounds_toArray, List.set_cons_zero, List.set_cons_succ]
      refine held_heavy (i := 10) (by kernel_rfl) rfl (by rfl) (of_decide_eq_true (by kernel_rfl)) (fun K hK => ?_)
      go_simp
      refine hK _ _ ⟨⟨U3.alloc (.cells #[.int .i64 v] 3), ((hbU3.mono hsz).alloc (Nat.le_trans hsz hbU3.size) (.cells #[.int .i64 v] 3))⟩, rfl⟩ ?_
      clear hK K
      try simp only [Act.put, List.setIfInBounds_toArray, List.set_cons_zero, List.set_cons_succ]
      have hO3 := Lib.hid ((own_callB hO.out hbU3).alloc (.cells #[.int .i64 v] 3))
      have hN := Lib.hid (one_sl (Blk.new U3 3 #[.int .i64 v]))
      have hs3 : s ≤ (U3.alloc (.cells #[.int .i64 v] 3)).heap.size := by have := hbU3.size; simp; omega
      refine held_heavy (i := 11) (by kernel_rfl) rfl (by rfl) (of_decide_eq_true (by kernel_rfl)) (fun K hK => ?_)
      refine wp_append_sl _ _ rfl s _ k V rfl hO3.out (some ⟨U3.heap.size, 0, none⟩) 1 1 (fun _ => v) rfl hN.out (by omega) hs3 ?_
      intro u9 w9 hown hgr hiff
      clear hiff
      have hb9 : Below s wr w9 := (((hbU3.mono hsz).alloc (Nat.le_trans hsz hbU3.size) (.cells #[.int .i64 v] 3))).trans (below_own hO3.out hgr hs3)
      refine hK _ _ ⟨⟨w9, hb9⟩, rfl⟩ ?_
      clear hK K
      simp only [Act.put, List.getElem_toArray, List.getElem_cons_succ, List.getElem_cons_zero, List.setIfInBounds_toArray, List.set_cons_zero, List.set_cons_succ]
      refine held_quiets (fun _ _ _ _ _ h => h) (by kernel_rfl) ⟨⟨_, hb9⟩, rfl⟩ [12] _ _ _ (by kernel_rfl) (by kernel_rfl) (of_decide_eq_true (by kernel_rfl)) ?_
      simp only [List.filterMap, List.getElem?_toArray, List.getElem?_cons_succ, List.getElem?_cons_zero]
      repeat (first | go_big_quiet_step (fail))
      refine wpQuiet_nil ?_
      refine wpAnyH_done (by kernel_rfl) ?_ _
      refine NoPanic.normal ?_
      rw [hvv.out] at hown
      replace hown := Lib.hid hown
      have hs9 : s ≤ w9.heap.size := Nat.le_trans hs3 (by have := hgr.size; omega)
      replace k1 := Lib.hid (k1.out.farS hb9 hl1.out)
      replace k2 := Lib.hid (k2.out.farS hb9 hl2.out)
      replace hB := Lib.hid (hB.out.trans hb9)
      go_wp2_with fail
      go_roundw
      case rel => exact ⟨k + 1, by omega, by go_num, hown.out, hs9, k1.out, k2.out, hB.out⟩
      case measure => simp [intOf]; omega
    · have he : k = n := by omega
      have hlt' : (n : Int) ≤ k := by omega
      subst he
      obtain ⟨A', c, rfl, hs, hlow⟩ := own_sl hO.out
      clear hO
      go_wp2
      go_ret
      exact ⟨hB.out, A', c, rfl, hs, hlow⟩
end Go.Proofs.Ythbagegkcpblgaa
