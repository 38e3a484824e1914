/- Inputs of both. -/
import Derived.Test.YthbagegkcpblgaaVar12
namespace Go.Proofs.Ythbagegkcpblgaa
open Go.RowKit
attribute [local go_sem] Ext.cell
theorem Sl.grown {W W' : World} {A : Option Addr} {n c : Nat} {f : Nat → Int} {row : Option Nat} (h : Sl W A n c f) (hg : W.grownBy W' row) (hr : ∀ a, A = Option.some a → 0 < n → row ≠ Option.some a.block) : Sl W' A n c f :=
  ⟨h.nil, fun h0 => by
    obtain ⟨a, e, hl⟩ := h.lies h0
    refine ⟨a, e, fun h1 => Nat.lt_of_lt_of_le (hl.lt h1) hg.size, fun i hi => ?_⟩
    rw [← hl.at_ i hi]
    refine World.cell?_of_block ?_
    rw [Go.ChangeShapes.block_add]
    exact hg.block _ (hl.lt h0) (fun e2 => hr a e h0 e2.symm)⟩
theorem own_cap {W : World} {base n m c k : Nat} {t : TypeId} {A : Option Addr} {xs : List Value} (h : W.ownsRow base t k (.slice A m c) n xs) : m ≤ c := by
  obtain ⟨-, ⟨e, rfl⟩ | ⟨g, c', cur, e, -, -, hc, -⟩⟩ := h
  · cases e
    exact Nat.le_refl _
  · cases e
    exact hc
theorem catI_congr {n m : Nat} {H U F : Nat → Int} (h : ∀ k, catI n H U k = F k) : intsOf (catI n H U) m = intsOf F m := intsOf_congr fun i _ => h i
set_option maxRecDepth 100000 in
set_option maxHeartbeats 16000000 in
theorem inputs_at (x0 y0 z0 u0 x1 y1 z1 u1 x2 y2 z2 u2 : Int) (A0 A1 A2 : Option Addr) (n0 c0 n1 c1 n2 c2 : Nat) (pr : Int) (fr : Bool) (p q u v : Int) (hu : clampI p 0 63 = u) (hv : clampI q 0 63 = v) (w : World) (f0 f1 f2 : Nat → Int) (k0 : Sl w A0 n0 c0 f0) (k1 : Sl w A1 n1 c1 f1) (k2 : Sl w A2 n2 c2 f2) (N M : Nat) (hNn : N ≤ 17592186043904) (hM : N + N + N = M) (h3 : M ≤ 17592186044416) (H U V F : Nat → Int) (hF : ∀ k, catI (N + N) (catI N H U) V k = F k)
    (hA : ∀ w, Sl w A0 n0 c0 f0 → Sl w A1 n1 c1 f1 → Sl w A2 n2 c2 f2 → Calls Try.prog 30 #[.agg #[.int .i64 x0, .int .i64 y0, .int .i64 z0, .int .i64 u0, .slice A0 n0 c0, .int .i64 x1, .int .i64 y1, .int .i64 z1, .int .i64 u1, .slice A1 n1 c1, .int .i64 x2, .int .i64 y2, .int .i64 z2, .int .i64 u2, .slice A2 n2 c2, .int .i64 pr, .bool fr], .int .i64 u, .int .i64 v] w fun e w' => Below w.heap.size w w' ∧ ∃ v, e = .returned v ∧ w'.ownsRow w.heap.size 3 1 v N (intsOf H N))
    (hD : ∀ w, Sl w A0 n0 c0 f0 → Sl w A1 n1 c1 f1 → Sl w A2 n2 c2 f2 → Calls Try.prog 9 #[.agg #[.int .i64 x0, .int .i64 y0, .int .i64 z0, .int .i64 u0, .slice A0 n0 c0, .int .i64 x1, .int .i64 y1, .int .i64 z1, .int .i64 u1, .slice A1 n1 c1, .int .i64 x2, .int .i64 y2, .int .i64 z2, .int .i64 u2, .slice A2 n2 c2, .int .i64 pr, .bool fr], .int .i64 p, .int .i64 q] w fun e w' => Below w.heap.size w w' ∧ ∃ A c B d, e = .returned (.tuple #[.slice A N c, .slice B N d]) ∧ Sl w' A N c U ∧ Sl w' B N d V ∧ (∀ a, A = some a → w.heap.size ≤ a.block) ∧ (∀ a, B = some a → w.heap.size ≤ a.block)) :
    Calls Try.prog 14 #[.agg #[.int .i64 x0, .int .i64 y0, .int .i64 z0, .int .i64 u0, .slice A0 n0 c0, .int .i64 x1, .int .i64 y1, .int .i64 z1, .int .i64 u1, .slice A1 n1 c1, .int .i64 x2, .int .i64 y2, .int .i64 z2, .int .i64 u2, .slice A2 n2 c2, .int .i64 pr, .bool fr], .int .i64 p, .int .i64 q] w fun e w' => Below w.heap.size w w' ∧ ∃ A c, e = .returned (.slice A M c) ∧ Sl w' A M c F ∧ M ≤ c ∧ ∀ a, A = some a → w.heap.size ≤ a.block := by
  replace hA := Lib.hid hA
  replace hD := Lib.hid hD
  replace hF := Lib.hid hF
  have hk := Lib.hid (Blk.new w 27 #[.int .i64 x0, .int .i64 y0, .int .i64 z0, .int .i64 u0, .slice A0 n0 c0, .int .i64 x1, .int .i64 y1, .int .i64 z1, .int .i64 u1, .slice A1 n1 c1, .int .i64 x2, .int .i64 y2, .int .i64 z2, .int .i64 u2, .slice A2 n2 c2, .int .i64 pr, .bool fr])
  have hB : Hid (Below w.heap.size w (w.alloc (.cells #[.int .i64 x0, .int .i64 y0, .int .i64 z0, .int .i64 u0, .slice A0 n0 c0, .int .i64 x1, .int .i64 y1, .int .i64 z1, .int .i64 u1, .slice A1 n1 c1, .int .i64 x2, .int .i64 y2, .int .i64 z2, .int .i64 u2, .slice A2 n2 c2, .int .i64 pr, .bool fr] 27))) := Lib.hid (by go_grown)
  replace k0 := Lib.hid (k0.alloc (.cells #[.int .i64 x0, .int .i64 y0, .int .i64 z0, .int .i64 u0, .slice A0 n0 c0, .int .i64 x1, .int .i64 y1, .int .i64 z1, .int .i64 u1, .slice A1 n1 c1, .int .i64 x2, .int .i64 y2, .int .i64 z2, .int .i64 u2, .slice A2 n2 c2, .int .i64 pr, .bool fr] 27))
  replace k1 := Lib.hid (k1.alloc (.cells #[.int .i64 x0, .int .i64 y0, .int .i64 z0, .int .i64 u0, .slice A0 n0 c0, .int .i64 x1, .int .i64 y1, .int .i64 z1, .int .i64 u1, .slice A1 n1 c1, .int .i64 x2, .int .i64 y2, .int .i64 z2, .int .i64 u2, .slice A2 n2 c2, .int .i64 pr, .bool fr] 27))
  replace k2 := Lib.hid (k2.alloc (.cells #[.int .i64 x0, .int .i64 y0, .int .i64 z0, .int .i64 u0, .slice A0 n0 c0, .int .i64 x1, .int .i64 y1, .int .i64 z1, .int .i64 u1, .slice A1 n1 c1, .int .i64 x2, .int .i64 y2, .int .i64 z2, .int .i64 u2, .slice A2 n2 c2, .int .i64 pr, .bool fr] 27))
  have hCx := Lib.hid (fun w => clamp_bl p 0 63 u hu w)
  have hCy := Lib.hid (fun w => clamp_bl q 0 63 v hv w)
  clear hu hv
  go_enter Try.func14, Try.ntmps14
  go_wp2_with fail
  generalize w.alloc (.cells #[.int .i64 x0, .int .i64 y0, .int .i64 z0, .int .i64 u0, .slice A0 n0 c0, .int .i64 x1, .int .i64 y1, .int .i64 z1, .int .i64 u1, .slice A1 n1 c1, .int .i64 x2, .int .i64 y2, .int .i64 z2, .int .i64 u2, .slice A2 n2 c2, .int .i64 pr, .bool fr] 27) = X at *
  have lk := hk.out.lt
  refine wp_region_noPanic ?_
  refine wp_region_held_drew (S := fun w' => ∃ n : Ext X (X.heap.size), w' = n.val) (by kernel_rfl) ⟨⟨X.drew, (Below.refl _ _).drew⟩, rfl⟩ (fun _ => ?_)
  refine held_quiets (fun _ _ _ _ _ h => h) (by kernel_rfl) ⟨⟨_, (((Below.refl _ _).drew).mono (Nat.le_refl _))⟩, rfl⟩ [0, 1, 3] _ _ _ (by kernel_rfl) (by kernel_rfl) (of_decide_eq_true (by kernel_rfl)) ?_
  simp only [List.filterMap, List.getElem?_toArray, List.getElem?_cons_succ, List.getElem?_cons_zero]
  repeat (first | (go_big_quiet_want; refine quiet_load_row 27 _ rfl _ rfl _ _ _ hk.out (by first | assumption | omega) Try.underlying27 rfl triInfo ?_; simp only [Act.put, List.setIfInBounds_toArray, List.set_cons_zero, List.set_cons_succ]; go_big_quiet_on) | go_big_quiet_step (fail))
  refine wpQuiet_nil ?_
  refine held_heavy (i := 2) (by kernel_rfl) rfl (by rfl) (of_decide_eq_true (by kernel_rfl)) (fun K hK => ?_)
  go_simp
  refine (hCx.out _).mono ?_
  rintro e U1 ⟨rfl, hv1⟩
  have hbU1 : Below X.heap.size X U1 := (((Below.refl _ _).drew).trans (hv1.mono (Nat.le_refl _)))
  refine hK _ _ ⟨⟨U1, (hbU1.mono (Nat.le_refl _))⟩, rfl⟩ ?_
  clear hK K
  try simp only [Act.put, List.setIfInBounds_toArray, List.set_cons_zero, List.set_cons_succ]
  refine held_heavy (i := 4) (by kernel_rfl) rfl (by rfl) (of_decide_eq_true (by kernel_rfl)) (fun K hK => ?_)
  go_simp
  refine (hCy.out _).mono ?_
  rintro e U2 ⟨rfl, hv2⟩
  have hbU2 : Below X.heap.size X U2 := (below_on hbU1 hv2)
  refine hK _ _ ⟨⟨U2, (hbU2.mono (Nat.le_refl _))⟩, rfl⟩ ?_
  clear hK K
  try simp only [Act.put, List.setIfInBounds_toArray, List.set_cons_zero, List.set_cons_succ]
  refine held_heavy (i := 5) (by kernel_rfl) rfl (by rfl) (of_decide_eq_true (by kernel_rfl)) (fun K hK => ?_)
  go_simp
  refine (hA.out _ (k0.out.call hbU2) (k1.out.call hbU2) (k2.out.call hbU2)).mono ?_
  rintro e U3 ⟨hv3, v3, rfl, ho⟩
  have hbU3 : Below X.heap.size X U3 := (below_on hbU2 hv3)
  have hown := Lib.hid (own_base ho (Nat.le_trans hB.out.size hbU2.size))
  clear ho
  refine hK _ _ ⟨⟨U3, (hbU3.mono (Nat.le_refl _))⟩, rfl⟩ ?_
  clear hK K
  try simp only [Act.put, List.setIfInBounds_toArray, List.set_cons_zero, List.set_cons_succ]
  refine held_quiets (fun _ _ _ _ _ h => h) (by kernel_rfl) ⟨⟨_, (hbU3.mono (Nat.le_refl _))⟩, rfl⟩ [6] _ _ _ (by kernel_rfl) (by kernel_rfl) (of_decide_eq_true (by kernel_rfl)) ?_
  simp only [List.filterMap, List.getElem?_toArray, List.getElem?_cons_succ, List.getElem?_cons_zero]
  repeat (first | (go_big_quiet_want; refine quiet_load_row 27 _ rfl _ rfl _ _ _ hk.out (by first | assumption | omega) Try.underlying27 rfl triInfo ?_; simp only [Act.put, List.setIfInBounds_toArray, List.set_cons_zero, List.set_cons_succ]; go_big_quiet_on) | go_big_quiet_step (fail))
  refine wpQuiet_nil ?_
  refine wpAnyH_done (by kernel_rfl) ?_ _
  refine NoPanic.normal ?_
  replace hk := Lib.hid (hk.out.call hbU3)
  replace k0 := Lib.hid (k0.out.call hbU3)
  replace k1 := Lib.hid (k1.out.call hbU3)
  replace k2 := Lib.hid (k2.out.call hbU3)
  replace hB := Lib.hid (below_on hB.out hbU3)
  have hrow : Hid (∀ k, v3.ownBlock = some k → k < U3.heap.size) := Lib.hid (fun k hk => (hown.out.lt k hk).2)
  clear hbU1 hbU2 hbU3 hCx hCy hA lk
  go_wp2_with (refine wpList_load_row rfl 27 _ rfl _ rfl _ _ _ _ hk.out Try.underlying27 rfl triInfo ?_)
  refine (hD.out _ k0.out k1.out k2.out).mono ?_
  rintro e W4 ⟨hb, D, d, E, d', rfl, hs1, hs2, -, hl2⟩
  replace hB := Lib.hid (below_on hB.out hb)
  replace hown := Lib.hid (own_callB hown.out hb)
  have hne : Hid (∀ a, E = some a → 0 < N → v3.ownBlock ≠ some a.block) := Lib.hid (fun a e _ h => by have := hl2 a e; have := hrow.out _ h; omega)
  replace hs1 := Lib.hid hs1
  replace hs2 := Lib.hid hs2
  clear hb hl2 hrow hD hk k0 k1 k2
  have sz := hB.out.size
  go_wp2_with (first | (at_builtin; refine wpList_append_sl rfl _ _ rfl w.heap.size v3 N H rfl hown.out D N d U rfl hs1.out (by omega) sz ?_; intro v5 W5 ho5 hg5 hi5; clear hi5; replace hs2 := Lib.hid (hs2.out.grown hg5 hne.out); replace hB := Lib.hid (hB.out.trans (below_own hown.out hg5 sz)); replace ho5 := Lib.hid ho5; replace sz := hB.out.size; clear hown hg5 hs1 hne) | (at_builtin; refine wpList_append_sl rfl _ _ rfl w.heap.size v5 (N + N) (catI N H U) rfl ho5.out E N d' V rfl hs2.out (by omega) sz ?_; intro v6 W6 ho6 hg6 hi6; clear hi6; replace hB := Lib.hid (hB.out.trans (below_own ho5.out hg6 sz)); replace ho6 := Lib.hid ho6; clear ho5 hg6 hs2))
  have ho := ho6.out
  rw [catI_congr hF.out, hM] at ho
  obtain ⟨A', c', rfl, hs, hl⟩ := own_sl ho
  have hc := own_cap ho
  go_ret
  exact ⟨hB.out, A', c', rfl, hs, hc, hl⟩
set_option maxRecDepth 100000 in
set_option maxHeartbeats 16000000 in
theorem rInputs_at (x0 y0 z0 u0 x1 y1 z1 u1 x2 y2 z2 u2 : Int) (A0 A1 A2 : Option Addr) (n0 c0 n1 c1 n2 c2 : Nat) (pr : Int) (fr : Bool) (p q u v : Int) (hu : clampI p 0 63 = u) (hv : clampI q 0 63 = v) (w : World) (f0 f1 f2 : Nat → Int) (k0 : Sl w A0 n0 c0 f0) (k1 : Sl w A1 n1 c1 f1) (k2 : Sl w A2 n2 c2 f2) (N M : Nat) (hNn : N ≤ 17592186043904) (hM : N + N + N = M) (h3 : M ≤ 17592186044416) (H U V F : Nat → Int) (hF : ∀ k, catI (N + N) (catI N H U) V k = F k)
    (hA : ∀ w, Sl w A0 n0 c0 f0 → Sl w A1 n1 c1 f1 → Sl w A2 n2 c2 f2 → Calls Try.prog 33 #[.agg #[.int .i64 x0, .int .i64 y0, .int .i64 z0, .int .i64 u0, .slice A0 n0 c0, .int .i64 x1, .int .i64 y1, .int .i64 z1, .int .i64 u1, .slice A1 n1 c1, .int .i64 x2, .int .i64 y2, .int .i64 z2, .int .i64 u2, .slice A2 n2 c2, .int .i64 pr, .bool fr], .int .i64 u, .int .i64 v] w fun e w' => Below w.heap.size w w' ∧ ∃ A c, e = .returned (.slice A N c) ∧ Sl w' A N c H ∧ ∀ a, A = some a → w.heap.size ≤ a.block)
    (hD : ∀ w, Sl w A0 n0 c0 f0 → Sl w A1 n1 c1 f1 → Sl w A2 n2 c2 f2 → Calls Try.prog 10 #[.agg #[.int .i64 x0, .int .i64 y0, .int .i64 z0, .int .i64 u0, .slice A0 n0 c0, .int .i64 x1, .int .i64 y1, .int .i64 z1, .int .i64 u1, .slice A1 n1 c1, .int .i64 x2, .int .i64 y2, .int .i64 z2, .int .i64 u2, .slice A2 n2 c2, .int .i64 pr, .bool fr], .int .i64 p, .int .i64 q] w fun e w' => Below w.heap.size w w' ∧ ∃ A c B d, e = .returned (.tuple #[.slice A N c, .slice B N d]) ∧ Sl w' A N c U ∧ Sl w' B N d V ∧ (∀ a, A = some a → w.heap.size ≤ a.block) ∧ (∀ a, B = some a → w.heap.size ≤ a.block)) :
    Calls Try.prog 15 #[.agg #[.int .i64 x0, .int .i64 y0, .int .i64 z0, .int .i64 u0, .slice A0 n0 c0, .int .i64 x1, .int .i64 y1, .int .i64 z1, .int .i64 u1, .slice A1 n1 c1, .int .i64 x2, .int .i64 y2, .int .i64 z2, .int .i64 u2, .slice A2 n2 c2, .int .i64 pr, .bool fr], .int .i64 p, .int .i64 q] w fun e w' => Below w.heap.size w w' ∧ ∃ A c, e = .returned (.slice A M c) ∧ Sl w' A M c F ∧ M ≤ c ∧ ∀ a, A = some a → w.heap.size ≤ a.block := by
  replace hA := Lib.hid hA
  replace hD := Lib.hid hD
  replace hF := Lib.hid hF
  have hk := Lib.hid (Blk.new w 27 #[.int .i64 x0, .int .i64 y0, .int .i64 z0, .int .i64 u0, .slice A0 n0 c0, .int .i64 x1, .int .i64 y1, .int .i64 z1, .int .i64 u1, .slice A1 n1 c1, .int .i64 x2, .int .i64 y2, .int .i64 z2, .int .i64 u2, .slice A2 n2 c2, .int .i64 pr, .bool fr])
  have hB : Hid (Below w.heap.size w (w.alloc (.cells #[.int .i64 x0, .int .i64 y0, .int .i64 z0, .int .i64 u0, .slice A0 n0 c0, .int .i64 x1, .int .i64 y1, .int .i64 z1, .int .i64 u1, .slice A1 n1 c1, .int .i64 x2, .int .i64 y2, .int .i64 z2, .int .i64 u2, .slice A2 n2 c2, .int .i64 pr, .bool fr] 27))) := Lib.hid (by go_grown)
  replace k0 := Lib.hid (k0.alloc (.cells #[.int .i64 x0, .int .i64 y0, .int .i64 z0, .int .i64 u0, .slice A0 n0 c0, .int .i64 x1, .int .i64 y1, .int .i64 z1, .int .i64 u1, .slice A1 n1 c1, .int .i64 x2, .int .i64 y2, .int .i64 z2, .int .i64 u2, .slice A2 n2 c2, .int .i64 pr, .bool fr] 27))
  replace k1 := Lib.hid (k1.alloc (.cells #[.int .i64 x0, .int .i64 y0, .int .i64 z0, .int .i64 u0, .slice A0 n0 c0, .int .i64 x1, .int .i64 y1, .int .i64 z1, .int .i64 u1, .slice A1 n1 c1, .int .i64 x2, .int .i64 y2, .int .i64 z2, .int .i64 u2, .slice A2 n2 c2, .int .i64 pr, .bool fr] 27))
  replace k2 := Lib.hid (k2.alloc (.cells #[.int .i64 x0, .int .i64 y0, .int .i64 z0, .int .i64 u0, .slice A0 n0 c0, .int .i64 x1, .int .i64 y1, .int .i64 z1, .int .i64 u1, .slice A1 n1 c1, .int .i64 x2, .int .i64 y2, .int .i64 z2, .int .i64 u2, .slice A2 n2 c2, .int .i64 pr, .bool fr] 27))
  have hCx := Lib.hid (fun w => r_clamp_bl p 0 63 u (by omega) hu w)
  have hCy := Lib.hid (fun w => r_clamp_bl q 0 63 v (by omega) hv w)
  clear hu hv
  go_enter Try.func15, Try.ntmps15
  go_wp2_with (refine wpList_load_row rfl 27 _ rfl _ rfl _ _ _ _ hk.out Try.underlying27 rfl triInfo ?_)
  refine (hD.out _ k0.out k1.out k2.out).mono ?_
  rintro e W4 ⟨hb, D, d, E, d', rfl, hs1, hs2, -, -⟩
  replace hk := Lib.hid (hk.out.call hb)
  replace k0 := Lib.hid (k0.out.call hb)
  replace k1 := Lib.hid (k1.out.call hb)
  replace k2 := Lib.hid (k2.out.call hb)
  replace hB := Lib.hid (below_on hB.out hb)
  replace hs1 := Lib.hid hs1
  replace hs2 := Lib.hid hs2
  clear hb hD
  go_wp2_with fail
  have lk := hk.out.lt
  refine wp_region_noPanic ?_
  refine wp_region_held_drew (S := fun w' => ∃ n : Ext W4 (W4.heap.size), w' = n.val) (by kernel_rfl) ⟨⟨W4.drew, (Below.refl _ _).drew⟩, rfl⟩ (fun _ => ?_)
  refine held_quiets (fun _ _ _ _ _ h => h) (by kernel_rfl) ⟨⟨_, (((Below.refl _ _).drew).mono (Nat.le_refl _))⟩, rfl⟩ [0, 1, 3] _ _ _ (by kernel_rfl) (by kernel_rfl) (of_decide_eq_true (by kernel_rfl)) ?_
  simp only [List.filterMap, List.getElem?_toArray, List.getElem?_cons_succ, List.getElem?_cons_zero]
  repeat (first | (go_big_quiet_want; refine quiet_load_row 27 _ rfl _ rfl _ _ _ hk.out (by first | assumption | omega) Try.underlying27 rfl triInfo ?_; simp only [Act.put, List.setIfInBounds_toArray, List.set_cons_zero, List.set_cons_succ]; go_big_quiet_on) | go_big_quiet_step (fail))
  refine wpQuiet_nil ?_
  refine held_heavy (i := 2) (by kernel_rfl) rfl (by rfl) (of_decide_eq_true (by kernel_rfl)) (fun K hK => ?_)
  go_simp
  refine (hCx.out _).mono ?_
  rintro e U1 ⟨rfl, hv1⟩
  have hbU1 : Below W4.heap.size W4 U1 := (((Below.refl _ _).drew).trans (hv1.mono (Nat.le_refl _)))
  refine hK _ _ ⟨⟨U1, (hbU1.mono (Nat.le_refl _))⟩, rfl⟩ ?_
  clear hK K
  try simp only [Act.put, List.setIfInBounds_toArray, List.set_cons_zero, List.set_cons_succ]
  refine held_heavy (i := 4) (by kernel_rfl) rfl (by rfl) (of_decide_eq_true (by kernel_rfl)) (fun K hK => ?_)
  go_simp
  refine (hCy.out _).mono ?_
  rintro e U2 ⟨rfl, hv2⟩
  have hbU2 : Below W4.heap.size W4 U2 := (below_on hbU1 hv2)
  refine hK _ _ ⟨⟨U2, (hbU2.mono (Nat.le_refl _))⟩, rfl⟩ ?_
  clear hK K
  try simp only [Act.put, List.setIfInBounds_toArray, List.set_cons_zero, List.set_cons_succ]
  refine held_heavy (i := 5) (by kernel_rfl) rfl (by rfl) (of_decide_eq_true (by kernel_rfl)) (fun K hK => ?_)
  go_simp
  refine (hA.out _ (k0.out.call hbU2) (k1.out.call hbU2) (k2.out.call hbU2)).mono ?_
  rintro e U3 ⟨hv3, A3, c3, rfl, hs3, hl3⟩
  have hbU3 : Below W4.heap.size W4 U3 := (below_on hbU2 hv3)
  replace hs3 := Lib.hid hs3
  clear hl3
  refine hK _ _ ⟨⟨U3, (hbU3.mono (Nat.le_refl _))⟩, rfl⟩ ?_
  clear hK K
  try simp only [Act.put, List.setIfInBounds_toArray, List.set_cons_zero, List.set_cons_succ]
  refine held_heavy (i := 6) (by kernel_rfl) rfl (by rfl) (of_decide_eq_true (by kernel_rfl)) (fun K hK => ?_)
  refine wp_append_sl _ _ rfl U3.heap.size _ 0 (fun _ => 0) rfl (own_nil _ _) A3 N c3 H rfl hs3.out (by omega) (Nat.le_refl _) ?_
  intro v9 w9 hown hgr hiff
  clear hiff
  have hb39 : Below U3.heap.size U3 w9 := below_own (own_nil U3 (fun _ => 0)) hgr (Nat.le_refl _)
  have hb9 : Below W4.heap.size W4 w9 := below_on hbU3 hb39
  refine hK _ _ ⟨⟨w9, hb9⟩, rfl⟩ ?_
  clear hK K
  simp only [Act.put, List.getElem_toArray, List.getElem_cons_succ, List.getElem_cons_zero, List.setIfInBounds_toArray, List.set_cons_zero, List.set_cons_succ]
  refine held_quiets (fun _ _ _ _ _ h => h) (by kernel_rfl) ⟨⟨_, hb9⟩, rfl⟩ [7] _ _ _ (by kernel_rfl) (by kernel_rfl) (of_decide_eq_true (by kernel_rfl)) ?_
  simp only [List.filterMap, List.getElem?_toArray, List.getElem?_cons_succ, List.getElem?_cons_zero]
  repeat (first | (go_big_quiet_want; refine quiet_load_row 27 _ rfl _ rfl _ _ _ hk.out (by first | assumption | omega) Try.underlying27 rfl triInfo ?_; simp only [Act.put, List.setIfInBounds_toArray, List.set_cons_zero, List.set_cons_succ]; go_big_quiet_on) | go_big_quiet_step (fail))
  refine wpQuiet_nil ?_
  refine wpAnyH_done (by kernel_rfl) ?_ _
  refine NoPanic.normal ?_
  rw [Nat.zero_add, catI_zero] at hown
  have hd1 : Hid (∀ a, D = some a → 0 < N → a.block < U3.heap.size) := Lib.hid (sl_lt (hs1.out.call hbU3))
  have hd2 : Hid (∀ a, E = some a → 0 < N → a.block < U3.heap.size) := Lib.hid (sl_lt (hs2.out.call hbU3))
  replace hs1 := Lib.hid (hs1.out.call hb9)
  replace hs2 := Lib.hid (hs2.out.call hb9)
  have szU : w.heap.size ≤ U3.heap.size := by have := hB.out.size; have := hbU3.size; omega
  replace hB := Lib.hid (below_on hB.out hb9)
  have sz := hb39.size
  replace hown := Lib.hid hown
  clear hbU1 hbU2 hbU3 hb39 hb9 hCx hCy hA lk hk k0 k1 k2 hgr hs3
  generalize U3.heap.size = s at *
  go_wp2_with (first | (at_builtin; refine wpList_append_sl rfl _ _ rfl s v9 N H rfl hown.out D N d U rfl hs1.out (by omega) sz ?_; intro v5 W5 ho5 hg5 hi5; clear hi5; have hb5 := below_own hown.out hg5 sz; replace hs2 := Lib.hid (hs2.out.farS hb5 hd2.out); replace hB := Lib.hid (hB.out.trans (hb5.mono szU)); replace ho5 := Lib.hid ho5; replace sz := Nat.le_trans sz hb5.size; clear hown hg5 hs1 hb5) | (at_builtin; refine wpList_append_sl rfl _ _ rfl s v5 (N + N) (catI N H U) rfl ho5.out E N d' V rfl hs2.out (by omega) sz ?_; intro v6 W6 ho6 hg6 hi6; clear hi6; replace hB := Lib.hid (hB.out.trans ((below_own ho5.out hg6 sz).mono szU)); replace ho6 := Lib.hid ho6; clear ho5 hg6 hs2))
  have ho := ho6.out
  rw [catI_congr hF.out, hM] at ho
  obtain ⟨A', c', rfl, hs, hl⟩ := own_sl ho
  have hc := own_cap ho
  go_ret
  exact ⟨hB.out, A', c', rfl, hs, hc, fun a e => Nat.le_trans szU (hl a e)⟩
end Go.Proofs.Ythbagegkcpblgaa
