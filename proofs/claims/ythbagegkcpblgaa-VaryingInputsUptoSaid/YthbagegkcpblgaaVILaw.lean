/- VaryingInputs returns true, where the lists are of at most 1048576 numbers. -/
import Derived.Test.YthbagegkcpblgaaVar13
import Derived.Test.YthbagegkcpblgaaVar14
import Derived.DataElems
namespace Go.Proofs.Ythbagegkcpblgaa
open Go.RowKit
attribute [local go_sem] Ext.cell
/-- A part of a list. -/
theorem Sl.sub {W : World} {A : Option Addr} {n c : Nat} {f : Nat → Int} (h : Sl W A n c f) (hn : n ≤ c) (l m : Nat) (hlm : l + m ≤ n) : Sl W (if c = l then A else A.map (·.add (l * 1))) m (c - l) (fun i => f (l + i)) :=
  ⟨fun e => by
    have hA : A = Option.none := by
      split at e
      · exact e
      · simpa using e
    have := h.nil hA
    omega, fun h0 => by
    obtain ⟨a, e, hl⟩ := h.lies (by omega)
    refine ⟨a.add l, ?_, fun _ => ?_, fun i hi => ?_⟩
    · rw [if_neg (by omega), e, Nat.mul_one]
      rfl
    · rw [Go.ChangeShapes.block_add]
      exact hl.lt (by omega)
    · rw [Addr.add_add]
      exact hl.at_ (l + i) (by omega)⟩
theorem sl_info : Try.prog.underlying 22 = some (.slice (Try.prog.elem 22)) := by kernel_rfl
theorem sl_size (w : World) : (sizeOf (Try.prog.elem 22)).run Try.prog w = .ok 1 w := by kernel_rfl
theorem slice_to (A : Option Addr) (n c h : Nat) (hh : h ≤ c) (w : World) : (Instr.sliceAt 22 (.slice A n c) none (some (.int .i64 (h : Int))) none).run Try.prog w = .ok (.slice (if c = 0 then A else A.map (·.add (0 * 1))) h (c - 0)) w := by
  rw [run_sliceAt_slice (h := sl_info), run_slice_h (ht := sl_info) (h0 := by omega) (h2 := by omega), sl_size]
  simp [Result.andThen, sliced]
theorem slice_mid (A : Option Addr) (n c l m : Nat) (hh : l + m ≤ c) (h : Int) (he : (l : Int) + m = h) (w : World) : (Instr.sliceAt 22 (.slice A n c) (some (.int .i64 (l : Int))) (some (.int .i64 h)) none).run Try.prog w = .ok (.slice (if c = l then A else A.map (·.add (l * 1))) m (c - l)) w := by
  rw [run_sliceAt_slice (h := sl_info), run_slice_lh (ht := sl_info) (h0 := by omega) (h1 := by omega) (h2 := by omega), sl_size]
  have e1 : h.toNat - l = m := by omega
  simp [Result.andThen, sliced, e1]
theorem slice_from (A : Option Addr) (n c l m : Nat) (hh : l + m = n) (h : Int) (he : (l : Int) = h) (w : World) : (Instr.sliceAt 22 (.slice A n c) (some (.int .i64 h)) none none).run Try.prog w = .ok (.slice (if c = l then A else A.map (·.add (l * 1))) m (c - l)) w := by
  rw [run_sliceAt_slice (h := sl_info), run_slice_l (ht := sl_info) (h0 := by omega) (h1 := by omega), sl_size]
  subst he
  have e1 : n - l = m := by omega
  simp [Result.andThen, sliced, e1]
theorem wpList_sliceG {P : Program} {ops : Array Oper} {rest : List Oper} {o : Oper} {a : Act} {w : World} {Q : Exit → Act → World → Prop} (hw : Region.wanted o (yielded ops a.tmps) = true) (t : TypeId) (x : Operand) (lo hi mx : Option Operand) (ho : o.op = .slice t x lo hi mx)
    (v u : Value) (l h : Option Value) (hx : a.eval x = v) (hl : lo.map a.eval = l) (hh : hi.map a.eval = h) (hm : mx = none) (hr : (Instr.sliceAt t v l h none).run P w = .ok u w)
    (hk : wpList P ops Q rest (a.put o.dst u) w) : wpList P ops Q (o :: rest) a w :=
  wpList_step fun _ hK => by
    rw [if_pos hw]
    unfold Oper.wp execOp
    subst hm
    simp only [ho, hx, hl, hh, Option.map_none, hr, Sem.run_bind, Sem.run_pure, Result.andThen_ok]
    exact hK _ _ hk
set_option maxRecDepth 100000 in
set_option maxHeartbeats 16000000 in
theorem law_inputs (x0 y0 z0 u0 x1 y1 z1 u1 x2 y2 z2 u2 : Int) (A0 A1 A2 : Option Addr) (n0 c0 n1 c1 n2 c2 : Nat) (pr : Int) (fr : Bool) (p q : Int) (w : World) (hs0 : n0 ≤ 1048576) (hn1 : n1 ≤ 17592186043904) (hn2 : n2 ≤ 17592186043904) (f0 f1 f2 : Nat → Int) (k0 : Sl w A0 n0 c0 f0) (k1 : Sl w A1 n1 c1 f1) (k2 : Sl w A2 n2 c2 f2) :
    Calls Try.prog 4 #[.agg #[.int .i64 x0, .int .i64 y0, .int .i64 z0, .int .i64 u0, .slice A0 n0 c0, .int .i64 x1, .int .i64 y1, .int .i64 z1, .int .i64 u1, .slice A1 n1 c1, .int .i64 x2, .int .i64 y2, .int .i64 z2, .int .i64 u2, .slice A2 n2 c2, .int .i64 pr, .bool fr], .int .i64 p, .int .i64 q] w fun e w' => e = .returned (.bool true) ∧ Below w.heap.size w w' := by
  have hn0 : n0 ≤ 17592186043904 := by omega
  obtain ⟨u, hu⟩ : ∃ u, clampI p 0 63 = u := ⟨_, rfl⟩
  obtain ⟨v, hv⟩ : ∃ v, clampI q 0 63 = v := ⟨_, rfl⟩
  obtain ⟨x, hx⟩ : ∃ x, clampI p 0 62 = x := ⟨_, rfl⟩
  obtain ⟨y, hy⟩ : ∃ y, clampI q 0 62 = y := ⟨_, rfl⟩
  have bu : 0 ≤ u ∧ u ≤ 63 := by unfold clampI at hu; omega
  have bv : 0 ≤ v ∧ v ≤ 63 := by unfold clampI at hv; omega
  have hu2 : clampI u 0 63 = u := by unfold clampI; omega
  have hv2 : clampI v 0 63 = v := by unfold clampI; omega
  have hx2 : clampI u 0 62 = x := by unfold clampI at *; omega
  have hy2 : clampI v 0 62 = y := by unfold clampI at *; omega
  obtain ⟨s0, s1, hP, -⟩ := per_ex x0 y0 z0 u0 x1 y1 z1 u1 x2 y2 z2 u2 A0 A1 A2 n0 c0 n1 c1 n2 c2 pr fr (u * 256 + 128) (v * 256 + 128)
  obtain ⟨r0, r1, hQ0, -⟩ := per_ex x0 y0 z0 u0 x1 y1 z1 u1 x2 y2 z2 u2 A0 A1 A2 n0 c0 n1 c1 n2 c2 pr fr (x * 256 + 128) (y * 256 + 128)
  obtain ⟨a0, a1, hQ1, -⟩ := per_ex x0 y0 z0 u0 x1 y1 z1 u1 x2 y2 z2 u2 A0 A1 A2 n0 c0 n1 c1 n2 c2 pr fr ((x + 1) * 256 + 128) (y * 256 + 128)
  obtain ⟨b0, b1, hQ2, -⟩ := per_ex x0 y0 z0 u0 x1 y1 z1 u1 x2 y2 z2 u2 A0 A1 A2 n0 c0 n1 c1 n2 c2 pr fr (x * 256 + 128) ((y + 1) * 256 + 128)
  obtain ⟨N, hN⟩ : ∃ N, (if validB x0 y0 x1 y1 x2 y2 = true then n0 else 0) = N := ⟨_, rfl⟩
  have hNb : N ≤ 1048576 := by rw [← hN]; split <;> omega
  have hNn : N ≤ 17592186043904 := by omega
  obtain ⟨M, hM⟩ : ∃ M, N + N + N = M := ⟨_, rfl⟩
  have h3 : M ≤ 17592186044416 := by omega
  obtain ⟨U, hU⟩ : ∃ U : Nat → Int, ∀ k, fsub ((valsAt a0 a1 n1 n2 f0 f1 f2) k) ((valsAt r0 r1 n1 n2 f0 f1 f2) k) = U k := ⟨_, fun _ => rfl⟩
  obtain ⟨V, hV⟩ : ∃ V : Nat → Int, ∀ k, fsub ((valsAt b0 b1 n1 n2 f0 f1 f2) k) ((valsAt r0 r1 n1 n2 f0 f1 f2) k) = V k := ⟨_, fun _ => rfl⟩
  obtain ⟨H, hH⟩ : ∃ H : Nat → Int, valsAt s0 s1 n1 n2 f0 f1 f2 = H := ⟨_, rfl⟩
  obtain ⟨G, hG⟩ : ∃ G : Nat → Int, ∀ k, catI (N + N) (catI N H U) V k = G k := ⟨_, fun _ => rfl⟩
  have hVl := Lib.hid (fun w k0 k1 k2 => values_any x0 y0 z0 u0 x1 y1 z1 u1 x2 y2 z2 u2 A0 A1 A2 n0 c0 n1 c1 n2 c2 pr fr (u * 256 + 128) (v * 256 + 128) w hn0 hn1 hn2 f0 f1 f2 k0 k1 k2 s0 s1 hP N hN)
  have hAt := fun w k0 k1 k2 => vat_anyo x0 y0 z0 u0 x1 y1 z1 u1 x2 y2 z2 u2 A0 A1 A2 n0 c0 n1 c1 n2 c2 pr fr u v _ _ bu.1 bu.2 bv.1 bv.2 rfl rfl w hn0 hn1 hn2 f0 f1 f2 k0 k1 k2 s0 s1 hP N hN
  rw [hH] at hVl hAt
  have hDr := fun w k0 k1 k2 => deriv_any x0 y0 z0 u0 x1 y1 z1 u1 x2 y2 z2 u2 A0 A1 A2 n0 c0 n1 c1 n2 c2 pr fr p q x y hx hy w hn0 hn1 hn2 f0 f1 f2 k0 k1 k2 r0 r1 a0 a1 b0 b1 hQ0 hQ1 hQ2 N hN U V hU hV
  have hDr2 := fun w k0 k1 k2 => deriv_any x0 y0 z0 u0 x1 y1 z1 u1 x2 y2 z2 u2 A0 A1 A2 n0 c0 n1 c1 n2 c2 pr fr u v x y hx2 hy2 w hn0 hn1 hn2 f0 f1 f2 k0 k1 k2 r0 r1 a0 a1 b0 b1 hQ0 hQ1 hQ2 N hN U V hU hV
  have hIn := Lib.hid (fun w k0 k1 k2 => inputs_at x0 y0 z0 u0 x1 y1 z1 u1 x2 y2 z2 u2 A0 A1 A2 n0 c0 n1 c1 n2 c2 pr fr p q u v hu hv w f0 f1 f2 k0 k1 k2 N M hNn hM h3 H U V G hG hAt hDr)
  have hIn2 := Lib.hid (fun w k0 k1 k2 => inputs_at x0 y0 z0 u0 x1 y1 z1 u1 x2 y2 z2 u2 A0 A1 A2 n0 c0 n1 c1 n2 c2 pr fr u v u v hu2 hv2 w f0 f1 f2 k0 k1 k2 N M hNn hM h3 H U V G hG hAt hDr2)
  replace hDr := Lib.hid hDr
  replace hG := Lib.hid hG
  obtain ⟨mu, hy1⟩ : ∃ m, (if p < 63 then p else 63) = m := ⟨_, rfl⟩
  obtain ⟨mv, hy2'⟩ : ∃ m, (if q < 63 then q else 63) = m := ⟨_, rfl⟩
  have hy3 : (if 0 < mu then mu else 0) = u := by unfold clampI at hu; omega
  have hy4 : (if 0 < mv then mv else 0) = v := by unfold clampI at hv; omega
  have e0 : IntKind.i64.wrap (u * 256) = u * 256 := by rw [IntKind.wrap_i64]; omega
  have e1 : IntKind.i64.wrap (u * 256 + 128) = u * 256 + 128 := by rw [IntKind.wrap_i64]; omega
  have e2 : IntKind.i64.wrap (v * 256) = v * 256 := by rw [IntKind.wrap_i64]; omega
  have e3 : IntKind.i64.wrap (v * 256 + 128) = v * 256 + 128 := by rw [IntKind.wrap_i64]; omega
  have e4 : IntKind.i64.wrap (3 * (N : Int)) = (M : Int) := by rw [IntKind.wrap_i64]; omega
  obtain ⟨N2, hN2⟩ : ∃ N2 : Int, ((N : Int) + (N : Int)) = N2 := ⟨_, rfl⟩
  have e5 : IntKind.i64.wrap (2 * (N : Int)) = N2 := by rw [IntKind.wrap_i64]; omega
  have hk := Lib.hid (Blk.new w 27 #[.int .i64 x0, .int .i64 y0, .int .i64 z0, .int .i64 u0, .slice A0 n0 c0, .int .i64 x1, .int .i64 y1, .int .i64 z1, .int .i64 u1, .slice A1 n1 c1, .int .i64 x2, .int .i64 y2, .int .i64 z2, .int .i64 u2, .slice A2 n2 c2, .int .i64 pr, .bool fr])
  have hB : Hid (Below w.heap.size w (w.alloc (.cells #[.int .i64 x0, .int .i64 y0, .int .i64 z0, .int .i64 u0, .slice A0 n0 c0, .int .i64 x1, .int .i64 y1, .int .i64 z1, .int .i64 u1, .slice A1 n1 c1, .int .i64 x2, .int .i64 y2, .int .i64 z2, .int .i64 u2, .slice A2 n2 c2, .int .i64 pr, .bool fr] 27))) := Lib.hid (by go_grown)
  replace k0 := Lib.hid (k0.alloc (.cells #[.int .i64 x0, .int .i64 y0, .int .i64 z0, .int .i64 u0, .slice A0 n0 c0, .int .i64 x1, .int .i64 y1, .int .i64 z1, .int .i64 u1, .slice A1 n1 c1, .int .i64 x2, .int .i64 y2, .int .i64 z2, .int .i64 u2, .slice A2 n2 c2, .int .i64 pr, .bool fr] 27))
  replace k1 := Lib.hid (k1.alloc (.cells #[.int .i64 x0, .int .i64 y0, .int .i64 z0, .int .i64 u0, .slice A0 n0 c0, .int .i64 x1, .int .i64 y1, .int .i64 z1, .int .i64 u1, .slice A1 n1 c1, .int .i64 x2, .int .i64 y2, .int .i64 z2, .int .i64 u2, .slice A2 n2 c2, .int .i64 pr, .bool fr] 27))
  replace k2 := Lib.hid (k2.alloc (.cells #[.int .i64 x0, .int .i64 y0, .int .i64 z0, .int .i64 u0, .slice A0 n0 c0, .int .i64 x1, .int .i64 y1, .int .i64 z1, .int .i64 u1, .slice A1 n1 c1, .int .i64 x2, .int .i64 y2, .int .i64 z2, .int .i64 u2, .slice A2 n2 c2, .int .i64 pr, .bool fr] 27))
  clear hu hv hx hy hu2 hv2 hx2 hy2 hP hQ0 hQ1 hQ2 hN hU hV hAt hDr2 bu bv hH hn0 hn1 hn2
  replace hNn := Lib.hid hNn
  replace hNb := Lib.hid hNb
  replace h3 := Lib.hid h3
  replace hM := Lib.hid hM
  replace hN2 := Lib.hid hN2
  replace e0 := Lib.hid e0
  replace e1 := Lib.hid e1
  replace e2 := Lib.hid e2
  replace e3 := Lib.hid e3
  replace e4 := Lib.hid e4
  replace e5 := Lib.hid e5
  go_enter Try.func4, Try.ntmps4
  go_wp2_with (refine wpList_load_row rfl 27 _ rfl _ rfl _ _ _ _ hk.out Try.underlying27 rfl triInfo ?_)
  refine (hIn.out _ k0.out k1.out k2.out).mono ?_
  rintro e W1 ⟨hb, A, c, rfl, hs, hc, -⟩
  replace hk := Lib.hid (hk.out.call hb)
  replace k0 := Lib.hid (k0.out.call hb)
  replace k1 := Lib.hid (k1.out.call hb)
  replace k2 := Lib.hid (k2.out.call hb)
  replace hB := Lib.hid (below_on hB.out hb)
  clear hb
  replace hs := Lib.hid hs
  replace hc := Lib.hid hc
  clear hIn hy1 hy2' hy3 hy4
  have e0' := e0.out
  have e1' := e1.out
  have e2' := e2.out
  have e3' := e3.out
  go_wp2_with (refine wpList_load_row rfl 27 _ rfl _ rfl _ _ _ _ hk.out Try.underlying27 rfl triInfo ?_)
  refine (hVl.out _ k0.out k1.out k2.out).mono ?_
  rintro e W2 ⟨hb, B, d, rfl, hh, -⟩
  replace hk := Lib.hid (hk.out.call hb)
  replace k0 := Lib.hid (k0.out.call hb)
  replace k1 := Lib.hid (k1.out.call hb)
  replace k2 := Lib.hid (k2.out.call hb)
  replace hs := Lib.hid (hs.out.call hb)
  replace hB := Lib.hid (below_on hB.out hb)
  clear hb
  replace hh := Lib.hid hh
  clear hVl e0' e1' e2' e3' e0 e1 e2 e3
  go_wp2_with (refine wpList_load_row rfl 27 _ rfl _ rfl _ _ _ _ hk.out Try.underlying27 rfl triInfo ?_)
  refine (hDr.out _ k0.out k1.out k2.out).mono ?_
  rintro e W3 ⟨hb, D, g1, E, g2, rfl, hd1, hd2, -, -⟩
  replace hk := Lib.hid (hk.out.call hb)
  replace k0 := Lib.hid (k0.out.call hb)
  replace k1 := Lib.hid (k1.out.call hb)
  replace k2 := Lib.hid (k2.out.call hb)
  replace hs := Lib.hid (hs.out.call hb)
  replace hh := Lib.hid (hh.out.call hb)
  replace hB := Lib.hid (below_on hB.out hb)
  clear hb
  replace hd1 := Lib.hid hd1
  replace hd2 := Lib.hid hd2
  clear hDr
  have hg0 : Hid (∀ i, i < N → G (0 + i) = H i) := Lib.hid (fun i hi => by rw [← hG.out, Nat.zero_add]; unfold catI; rw [if_pos (by omega), if_pos hi])
  have hg1 : Hid (∀ i, i < N → G (N + i) = U i) := Lib.hid (fun i hi => by rw [← hG.out]; unfold catI; rw [if_pos (by omega), if_neg (by omega), Nat.add_sub_cancel_left])
  have hg2 : Hid (∀ i, i < N → G (N + N + i) = V i) := Lib.hid (fun i hi => by rw [← hG.out]; unfold catI; rw [if_neg (by omega), Nat.add_sub_cancel_left])
  have hcc := hc.out
  have hMM := hM.out
  obtain ⟨A0', h00⟩ : ∃ A', (if c = 0 then A else A.map (·.add (0 * 1))) = A' := ⟨_, rfl⟩
  obtain ⟨A1', h01⟩ : ∃ A', (if c = N then A else A.map (·.add (N * 1))) = A' := ⟨_, rfl⟩
  obtain ⟨A2', h02⟩ : ∃ A', (if c = N + N then A else A.map (·.add ((N + N) * 1))) = A' := ⟨_, rfl⟩
  have j0 := Lib.hid (h00 ▸ (hs.out.sub hc.out 0 N (by omega)).congr hg0.out)
  have j1 := Lib.hid (h01 ▸ (hs.out.sub hc.out N N (by omega)).congr hg1.out)
  have j2 := Lib.hid (h02 ▸ (hs.out.sub hc.out (N + N) N (by omega)).congr hg2.out)
  have sl0 := Lib.hid (fun w => h00 ▸ slice_to A M c N (by omega) w)
  have sl1 := Lib.hid (fun w => h01 ▸ slice_mid A M c N N (by omega) N2 hN2.out w)
  have sl2 := Lib.hid (fun w => h02 ▸ slice_from A M c (N + N) N (by omega) N2 (by have := hN2.out; omega) w)
  clear h00 h01 h02 hg0 hg1 hg2 hcc hMM hc hG
  have e4' := e4.out
  go_wp2_with (first | refine wpList_sliceG rfl _ _ _ _ _ rfl (.slice A M c) _ none (some (.int .i64 (N : Int))) rfl rfl rfl rfl (sl0.out _) ?_)
  refine (same_sl N (by have := hNb.out; have := hM.out; omega) H A0' B (c - 0) d _ j0.out hh.out).mono ?_
  rintro e W4 ⟨rfl, hb⟩
  replace hk := Lib.hid (hk.out.call hb)
  replace k0 := Lib.hid (k0.out.call hb)
  replace k1 := Lib.hid (k1.out.call hb)
  replace k2 := Lib.hid (k2.out.call hb)
  replace hs := Lib.hid (hs.out.call hb)
  replace hd1 := Lib.hid (hd1.out.call hb)
  replace hd2 := Lib.hid (hd2.out.call hb)
  replace j1 := Lib.hid (j1.out.call hb)
  replace j2 := Lib.hid (j2.out.call hb)
  replace hB := Lib.hid (below_on hB.out hb)
  clear hb
  clear j0 hh sl0 e4 e4'
  have e5' := e5.out
  go_wp2_with (first | refine wpList_sliceG rfl _ _ _ _ _ rfl (.slice A M c) _ (some (.int .i64 (N : Int))) (some (.int .i64 N2)) rfl rfl rfl rfl (sl1.out _) ?_)
  refine (same_sl N (by have := hNb.out; have := hM.out; omega) U A1' D (c - N) g1 _ j1.out hd1.out).mono ?_
  rintro e W5 ⟨rfl, hb⟩
  replace hk := Lib.hid (hk.out.call hb)
  replace k0 := Lib.hid (k0.out.call hb)
  replace k1 := Lib.hid (k1.out.call hb)
  replace k2 := Lib.hid (k2.out.call hb)
  replace hs := Lib.hid (hs.out.call hb)
  replace hd2 := Lib.hid (hd2.out.call hb)
  replace j2 := Lib.hid (j2.out.call hb)
  replace hB := Lib.hid (below_on hB.out hb)
  clear hb
  clear j1 hd1 sl1
  go_wp2_with (first | refine wpList_sliceG rfl _ _ _ _ _ rfl (.slice A M c) _ (some (.int .i64 N2)) none rfl rfl rfl rfl (sl2.out _) ?_)
  refine (same_sl N (by have := hNb.out; have := hM.out; omega) V A2' E (c - (N + N)) g2 _ j2.out hd2.out).mono ?_
  rintro e W6 ⟨rfl, hb⟩
  replace hk := Lib.hid (hk.out.call hb)
  replace k0 := Lib.hid (k0.out.call hb)
  replace k1 := Lib.hid (k1.out.call hb)
  replace k2 := Lib.hid (k2.out.call hb)
  replace hs := Lib.hid (hs.out.call hb)
  replace hB := Lib.hid (below_on hB.out hb)
  clear hb
  clear j2 hd2 sl2 e5 e5'
  go_wp2_with (refine wpList_load_rowG rfl 27 _ rfl _ rfl _ _ _ _ hk.out Try.underlying27 rfl triInfo ?_)
  refine (hIn2.out _ k0.out k1.out k2.out).mono ?_
  rintro e W7 ⟨hb, A9, c9, rfl, hs9, -, -⟩
  replace hs := Lib.hid (hs.out.call hb)
  replace hB := Lib.hid (below_on hB.out hb)
  clear hb
  replace hs9 := Lib.hid hs9
  clear hIn2 hk k0 k1 k2
  go_wp2_with fail
  refine (same_sl M (by have := h3.out; omega) G A A9 c c9 _ hs.out hs9.out).mono ?_
  rintro e W8 ⟨rfl, hb⟩
  replace hB := Lib.hid (below_on hB.out hb)
  clear hb
  clear hs hs9
  go_wp2_with fail
  refine (example_true _).mono ?_
  rintro e W9 ⟨rfl, hb⟩
  replace hB := Lib.hid (below_on hB.out hb)
  clear hb
  go_wp2
  go_ret
  exact ⟨rfl, hB.out⟩
end Go.Proofs.Ythbagegkcpblgaa
