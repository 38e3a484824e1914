/- Arguments that came in, opened to their cells: a vertex, a triple of vertices, a list of integers. -/
import Derived.Test.YthbagegkcpblgaaOwn
namespace Go.Proofs.Ythbagegkcpblgaa
open Go.ChangeShapes Go.WideShapes Go.ChangeAt Go.RowKit

/-- The slice value '.slice A n c' holds the integers zs. -/
def Ints (w : World) (A : Option Addr) (n : Nat) (zs : List Int) : Prop :=
  zs.length = n ∧ (∀ z ∈ zs, (Lit.int .i64 z).wf = true) ∧ (0 < n → ∃ b off, A = some ⟨b, off, none⟩ ∧ b < w.heap.size ∧ ∀ i, i < n → w.cell? ⟨b, off + i, none⟩ = some (.int .i64 (zs.getD i 0)))
theorem Ints.below {w w' : World} {A : Option Addr} {n : Nat} {zs : List Int} (h : Ints w A n zs) (hb : Below w.heap.size w w') : Ints w' A n zs := by
  obtain ⟨h1, h2, h3⟩ := h
  refine ⟨h1, h2, fun hn => ?_⟩
  obtain ⟨b, off, e, hlt, hc⟩ := h3 hn
  exact ⟨b, off, e, Nat.lt_of_lt_of_le hlt hb.size, fun i hi => (hb.cell (p := ⟨b, off + i, none⟩) hlt).trans (hc i hi)⟩

section
variable {H : Type} {enc : TypeId × Value → H} {w : World} {base : Nat} {spare : Nat → Bool} {held : Bool}

theorem open_intsV {fuel : Nat} {cs : List Value} {x : DataW H × List MemPlace} (h : DataW.trod enc Try.prog w base spare held fuel 22 cs = some x) :
    ∃ (A : Option Addr) (n c : Nat) (zs : List Int), cs = [.slice A n c] ∧ n ≤ c ∧ c ≤ maxLen ∧ Ints w A n zs ∧ (x.1 = .nil ∧ n = 0 ∨ ∃ sp, x.1 = .slice (lits .i64 zs) sp) := by
  rcases open_ints Try.underlying22 Try.underlying3 (by kernel_rfl) h with ⟨hcs, hx⟩ | ⟨a, len, cap, zs, hcs, hb, hl, hm, hz, hx, hcell, hwz⟩
  · exact ⟨none, 0, 0, [], hcs, Nat.le_refl _, Nat.zero_le _, ⟨rfl, by simp, fun h => absurd h (by omega)⟩, .inl ⟨by rw [hx], rfl⟩⟩
  · refine ⟨some a, len, cap, zs.take len, hcs, hl, hm, ⟨?_, fun z hz' => hwz z (List.mem_of_mem_take hz'), fun hn => ?_⟩, .inr ⟨_, by rw [hx]⟩⟩
    · rw [List.length_take, hz]; split <;> omega
    · have hzl : len ≤ zs.length := by rw [hz]; split <;> omega
      obtain ⟨b, off, spot⟩ := a
      have hc0 := hcell 0 (by omega)
      have hspot : spot = none := by simpa [Addr.add] using World.cell?_spot hc0
      subst hspot
      have hlt : b < w.heap.size := by
        have := World.block_lt_of_cell? w _ hc0
        simpa [Addr.add] using this
      refine ⟨b, off, rfl, hlt, fun i hi => ?_⟩
      have hc := hcell i (by omega)
      have e : (⟨b, off, none⟩ : Addr).add i = ⟨b, off + i, none⟩ := by
        unfold Addr.add
        by_cases h0 : i = 0
        · subst h0; simp
        · simp [h0]
      rw [e] at hc
      rw [hc]
      simp [hi]

theorem open_vertex {fuel : Nat} {cs : List Value} {x : DataW H × List MemPlace} (h : DataW.trod enc Try.prog w base spare held fuel 24 cs = some x) :
    ∃ (x0 y0 z0 u0 : Int) (A : Option Addr) (n c : Nat) (zs : List Int), cs = [.int .i64 x0, .int .i64 y0, .int .i64 z0, .int .i64 u0, .slice A n c] ∧ n ≤ c ∧ c ≤ maxLen ∧ Ints w A n zs ∧
      (Lit.int .i64 x0).wf = true ∧ (Lit.int .i64 y0).wf = true ∧ (Lit.int .i64 z0).wf = true ∧ (Lit.int .i64 u0).wf = true ∧
      ∃ d, (d = .nil ∧ n = 0 ∨ ∃ sp, d = .slice (lits .i64 zs) sp) ∧ x.1 = .agg [.lit (.int .i64 x0), .lit (.int .i64 y0), .lit (.int .i64 z0), .lit (.int .i64 u0), d] := by
  obtain ⟨xs, k, _, hx, hlen, hxl, hf⟩ := DataW.trod_struct Try.underlying24 h
  have hl : cs.length = 5 := hlen.trans (by kernel_rfl)
  have hxl' : xs.length = 5 := hxl
  match cs, hl with
  | [c0, c1, c2, c3, c4], _ =>
    match xs, hxl' with
    | [y0, y1, y2, y3, y4], _ =>
      have h0 := hf 0 _ rfl
      have h1 := hf 1 _ rfl
      have h2 := hf 2 _ rfl
      have h3 := hf 3 _ rfl
      have h4 := hf 4 _ rfl
      have e1 : Try.prog.cellsOf 3 = 1 := by kernel_rfl
      have e2 : Try.prog.cellsOf 22 = 1 := by kernel_rfl
      simp only [List.getElem_toArray, List.getElem_cons_zero, List.getElem_cons_succ, e1, e2, List.drop_succ_cons, List.drop_zero, List.take_succ_cons, List.take_zero, List.getElem?_cons_zero, List.getElem?_cons_succ] at h0 h1 h2 h3 h4
      obtain ⟨a0, q0, p0, w0⟩ := DataW.trod_int Try.underlying3 h0
      obtain ⟨a1, q1, p1, w1⟩ := DataW.trod_int Try.underlying3 h1
      obtain ⟨a2, q2, p2, w2⟩ := DataW.trod_int Try.underlying3 h2
      obtain ⟨a3, q3, p3, w3⟩ := DataW.trod_int Try.underlying3 h3
      obtain ⟨A, n, c, zs, q4, i1, i2, i3, i4⟩ := open_intsV h4
      simp only [List.cons.injEq, and_true] at q0 q1 q2 q3 q4
      subst q0 q1 q2 q3 q4 p0 p1 p2 p3
      exact ⟨a0, a1, a2, a3, A, n, c, zs, rfl, i1, i2, i3, w0, w1, w2, w3, y4.1, i4, by rw [hx]; rfl⟩

/-- What is known of a vertex that came in. -/
def VtxOk (w : World) (x y z u : Int) (A : Option Addr) (n c : Nat) (zs : List Int) : Prop :=
  n ≤ c ∧ c ≤ maxLen ∧ Ints w A n zs ∧ (Lit.int .i64 x).wf = true ∧ (Lit.int .i64 y).wf = true ∧ (Lit.int .i64 z).wf = true ∧ (Lit.int .i64 u).wf = true

theorem open_verts {fuel : Nat} {cs : List Value} {x : DataW H × List MemPlace} (h : DataW.trod enc Try.prog w base spare held fuel 25 cs = some x) :
    ∃ (x0 y0 z0 u0 : Int) (A0 : Option Addr) (n0 c0 : Nat) (zs0 : List Int) (x1 y1 z1 u1 : Int) (A1 : Option Addr) (n1 c1 : Nat) (zs1 : List Int) (x2 y2 z2 u2 : Int) (A2 : Option Addr) (n2 c2 : Nat) (zs2 : List Int),
      cs = [.int .i64 x0, .int .i64 y0, .int .i64 z0, .int .i64 u0, .slice A0 n0 c0, .int .i64 x1, .int .i64 y1, .int .i64 z1, .int .i64 u1, .slice A1 n1 c1, .int .i64 x2, .int .i64 y2, .int .i64 z2, .int .i64 u2, .slice A2 n2 c2] ∧ VtxOk w x0 y0 z0 u0 A0 n0 c0 zs0 ∧ VtxOk w x1 y1 z1 u1 A1 n1 c1 zs1 ∧ VtxOk w x2 y2 z2 u2 A2 n2 c2 zs2 ∧
      ∃ d0 d1 d2, (d0 = .nil ∧ n0 = 0 ∨ ∃ sp, d0 = .slice (lits .i64 zs0) sp) ∧ (d1 = .nil ∧ n1 = 0 ∨ ∃ sp, d1 = .slice (lits .i64 zs1) sp) ∧ (d2 = .nil ∧ n2 = 0 ∨ ∃ sp, d2 = .slice (lits .i64 zs2) sp) ∧
        x.1 = .agg [.agg [.lit (.int .i64 x0), .lit (.int .i64 y0), .lit (.int .i64 z0), .lit (.int .i64 u0), d0], .agg [.lit (.int .i64 x1), .lit (.int .i64 y1), .lit (.int .i64 z1), .lit (.int .i64 u1), d1], .agg [.lit (.int .i64 x2), .lit (.int .i64 y2), .lit (.int .i64 z2), .lit (.int .i64 u2), d2]] := by
  obtain ⟨xs, k, _, hx, hlen, hxl, hf⟩ := DataW.trod_array Try.underlying25 h
  have hl : cs.length = 15 := hlen.trans (by kernel_rfl)
  match cs, hl with
  | [b0, b1, b2, b3, b4, b5, b6, b7, b8, b9, b10, b11, b12, b13, b14], _ =>
    match xs, hxl with
    | [s0, s1, s2], _ =>
      have h0 := hf 0 (by omega)
      have h1 := hf 1 (by omega)
      have h2 := hf 2 (by omega)
      have e1 : Try.prog.cellsOf 24 = 5 := by kernel_rfl
      simp only [e1, Nat.zero_mul, Nat.one_mul, Nat.reduceMul, List.drop_succ_cons, List.drop_zero, List.take_succ_cons, List.take_zero, List.getElem?_cons_zero, List.getElem?_cons_succ] at h0 h1 h2
      obtain ⟨x0, y0, z0, u0, A0, n0, c0, zs0, q0, i0, j0, k0, l0, m0, o0, p0, d0, g0, t0⟩ := open_vertex h0
      obtain ⟨x1, y1, z1, u1, A1, n1, c1, zs1, q1, i1, j1, k1, l1, m1, o1, p1, d1, g1, t1⟩ := open_vertex h1
      obtain ⟨x2, y2, z2, u2, A2, n2, c2, zs2, q2, i2, j2, k2, l2, m2, o2, p2, d2, g2, t2⟩ := open_vertex h2
      simp only [List.cons.injEq, and_true] at q0 q1 q2
      obtain ⟨rfl, rfl, rfl, rfl, rfl⟩ := q0
      obtain ⟨rfl, rfl, rfl, rfl, rfl⟩ := q1
      obtain ⟨rfl, rfl, rfl, rfl, rfl⟩ := q2
      refine ⟨x0, y0, z0, u0, A0, n0, c0, zs0, x1, y1, z1, u1, A1, n1, c1, zs1, x2, y2, z2, u2, A2, n2, c2, zs2, rfl, ⟨i0, j0, k0, l0, m0, o0, p0⟩, ⟨i1, j1, k1, l1, m1, o1, p1⟩, ⟨i2, j2, k2, l2, m2, o2, p2⟩, d0, d1, d2, g0, g1, g2, ?_⟩
      rw [hx]
      simp only [List.map_cons, List.map_nil, t0, t1, t2]

theorem open_vertsV {r : Reach} {b0 : Nat} {v : Value} {d : DataW H} {p : List MemPlace} (hv : Value.okWide Try.prog w r b0 25 v) (h : DataW.Trod enc Try.prog w base spare held 25 v d p) :
    ∃ (x0 y0 z0 u0 : Int) (A0 : Option Addr) (n0 c0 : Nat) (zs0 : List Int) (x1 y1 z1 u1 : Int) (A1 : Option Addr) (n1 c1 : Nat) (zs1 : List Int) (x2 y2 z2 u2 : Int) (A2 : Option Addr) (n2 c2 : Nat) (zs2 : List Int),
      v = .agg #[.int .i64 x0, .int .i64 y0, .int .i64 z0, .int .i64 u0, .slice A0 n0 c0, .int .i64 x1, .int .i64 y1, .int .i64 z1, .int .i64 u1, .slice A1 n1 c1, .int .i64 x2, .int .i64 y2, .int .i64 z2, .int .i64 u2, .slice A2 n2 c2] ∧ VtxOk w x0 y0 z0 u0 A0 n0 c0 zs0 ∧ VtxOk w x1 y1 z1 u1 A1 n1 c1 zs1 ∧ VtxOk w x2 y2 z2 u2 A2 n2 c2 zs2 ∧
      ∃ d0 d1 d2, (d0 = .nil ∧ n0 = 0 ∨ ∃ sp, d0 = .slice (lits .i64 zs0) sp) ∧ (d1 = .nil ∧ n1 = 0 ∨ ∃ sp, d1 = .slice (lits .i64 zs1) sp) ∧ (d2 = .nil ∧ n2 = 0 ∨ ∃ sp, d2 = .slice (lits .i64 zs2) sp) ∧
        d = .agg [.agg [.lit (.int .i64 x0), .lit (.int .i64 y0), .lit (.int .i64 z0), .lit (.int .i64 u0), d0], .agg [.lit (.int .i64 x1), .lit (.int .i64 y1), .lit (.int .i64 z1), .lit (.int .i64 u1), d1], .agg [.lit (.int .i64 x2), .lit (.int .i64 y2), .lit (.int .i64 z2), .lit (.int .i64 u2), d2]] := by
  unfold Value.okWide at hv
  rw [Try.underlying25] at hv
  obtain ⟨cs, rfl, _, _⟩ := hv
  obtain ⟨fuel, hf⟩ := h
  obtain ⟨x0, y0, z0, u0, A0, n0, c0, zs0, x1, y1, z1, u1, A1, n1, c1, zs1, x2, y2, z2, u2, A2, n2, c2, zs2, e, rest⟩ := open_verts hf
  refine ⟨x0, y0, z0, u0, A0, n0, c0, zs0, x1, y1, z1, u1, A1, n1, c1, zs1, x2, y2, z2, u2, A2, n2, c2, zs2, ?_, rest⟩
  obtain ⟨cs⟩ := cs
  simp only [Value.cells] at e
  rw [e]
end
end Go.Proofs.Ythbagegkcpblgaa
