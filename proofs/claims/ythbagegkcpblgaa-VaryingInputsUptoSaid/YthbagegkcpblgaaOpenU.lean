/- A triangle with its lists, opened to its cells, where what was handed in is of bulk at most 1048576. -/
import Derived.Test.YthbagegkcpblgaaOwn
import Derived.Test.YthbagegkcpblgaaSl
namespace Go.Proofs.Ythbagegkcpblgaa
open Go.ChangeShapes Go.WideShapes Go.ChangeAt Go.RowKit
section
variable {H : Type}
def BulkU (d : DataW H) : Prop := Rows.uptoBulk d ≤ 1048576
theorem bulk_in {l : List (DataW H)} {d : DataW H} : ∀ {j : Nat}, l[j]? = some d → Rows.uptoBulk d ≤ Rows.uptoBulkAll l := by
  induction l with
  | nil => intro j h; simp at h
  | cons x r ih =>
    intro j h
    simp only [Rows.uptoBulkAll]
    cases j with
    | zero =>
      simp only [List.getElem?_cons_zero, Option.some.injEq] at h
      subst h
      omega
    | succ j =>
      simp only [List.getElem?_cons_succ] at h
      have := ih h
      omega
theorem bulk_one (d : DataW H) : 1 ≤ Rows.uptoBulk d := by
  cases d with
  | lit l => cases l <;> simp [Rows.uptoBulk]
  | nil => simp [Rows.uptoBulk]
  | ptr d => simp [Rows.uptoBulk]
  | slice elems spare => simp [Rows.uptoBulk]
  | agg parts => simp [Rows.uptoBulk]
  | iface t d => simp [Rows.uptoBulk]
  | map entries => simp [Rows.uptoBulk]
  | held h => simp [Rows.uptoBulk]
theorem bulk_len (l : List (DataW H)) : l.length ≤ Rows.uptoBulkAll l := by
  induction l with
  | nil => simp [Rows.uptoBulkAll]
  | cons x r ih => have := bulk_one x; simp only [Rows.uptoBulkAll, List.length_cons]; omega
theorem bulk_part {l : List (DataW H)} {j : Nat} {d : DataW H} (h : BulkU (.agg l)) (hj : l[j]? = some d) : BulkU d := by
  unfold BulkU at *
  simp only [Rows.uptoBulk] at h
  have := bulk_in hj
  omega
theorem bulk_slice {el sp : List (DataW H)} (h : BulkU (.slice el sp)) : el.length ≤ 1048576 := by
  unfold BulkU at h
  simp only [Rows.uptoBulk] at h
  have := bulk_len el
  omega
theorem bulk_arg {l : List (DataW H)} {j : Nat} {d : DataW H} (h : Rows.uptoSmall H l = true) (hj : l[j]? = some d) : BulkU d := by
  have h : Rows.uptoBulkAll l ≤ 1048576 := of_decide_eq_true h
  have := bulk_in hj
  unfold BulkU
  omega
end
section
variable {H : Type} {enc : TypeId × Value → H} {w : World} {base : Nat} {spare : Nat → Bool} {held : Bool}
theorem open_intsU {fuel : Nat} {cs : List Value} {x : DataW H × List MemPlace} (h : DataW.trod enc Try.prog w base spare held fuel 22 cs = some x) (hs : BulkU x.1) :
    ∃ (A : Option Addr) (n c : Nat) (f : Nat → Int), cs = [.slice A n c] ∧ n ≤ 1048576 ∧ Sl w A n c f := by
  rcases open_ints Try.underlying22 Try.underlying3 (by kernel_rfl) h with ⟨hcs, hx⟩ | ⟨a, len, cap, zs, hcs, hb, hl, hm, hz, hx, hcell, hwz⟩
  · exact ⟨none, 0, 0, fun _ => 0, hcs, by omega, Sl.none _ _⟩
  · have hzl : len ≤ zs.length := by rw [hz]; split <;> omega
    refine ⟨some a, len, cap, fun i => zs.getD i 0, hcs, ?_, Sl.some ⟨fun h0 => ?_, fun i hi => hcell i (by omega)⟩⟩
    · rw [hx] at hs
      have hd := bulk_slice hs
      have e1 : (lits (H := H) IntKind.i64 (zs.take len)).length = len := by simp [lits, hzl]
      omega
    · have := World.block_lt_of_cell? w _ (hcell 0 (by omega))
      simpa [Addr.add] using this
theorem open_vertexU {fuel : Nat} {cs : List Value} {x : DataW H × List MemPlace} (h : DataW.trod enc Try.prog w base spare held fuel 24 cs = some x) (hs : BulkU x.1) :
    ∃ (x0 y0 z0 u0 : Int) (A0 : Option Addr) (n0 c0 : Nat) (f0 : Nat → Int), cs = [.int .i64 x0, .int .i64 y0, .int .i64 z0, .int .i64 u0, .slice A0 n0 c0] ∧ (n0 ≤ 1048576 ∧ Sl w A0 n0 c0 f0) ∧ (Lit.int .i64 z0).wf = true ∧ (Lit.int .i64 u0).wf = true := by
  obtain ⟨xs, k, _, hx, hlen, hxl, hf⟩ := DataW.trod_struct Try.underlying24 h
  have hl : cs.length = 5 := hlen.trans (by kernel_rfl)
  have hxl' : xs.length = 5 := hxl
  match cs, hl with
  | [c0, c1, c2, c3, c4], _ =>
    match xs, hxl' with
    | [y0, y1, y2, y3, y4], _ =>
      have h0 := hf 0 _ rfl
      have h1 := hf 1 _ rfl
      have h2 := hf 2 _ rfl
      have h3 := hf 3 _ rfl
      have h4 := hf 4 _ rfl
      have e1 : Try.prog.cellsOf 3 = 1 := by kernel_rfl
      have e2 : Try.prog.cellsOf 22 = 1 := by kernel_rfl
      simp only [List.getElem_toArray, List.getElem_cons_zero, List.getElem_cons_succ, e1, e2, List.drop_succ_cons, List.drop_zero, List.take_succ_cons, List.take_zero, List.getElem?_cons_zero, List.getElem?_cons_succ] at h0 h1 h2 h3 h4
      obtain ⟨a0, q0, p0, w0⟩ := DataW.trod_int Try.underlying3 h0
      obtain ⟨a1, q1, p1, w1⟩ := DataW.trod_int Try.underlying3 h1
      obtain ⟨a2, q2, p2, w2⟩ := DataW.trod_int Try.underlying3 h2
      obtain ⟨a3, q3, p3, w3⟩ := DataW.trod_int Try.underlying3 h3
      rw [hx] at hs
      have hs4 := bulk_part (j := 4) (d := y4.1) hs rfl
      obtain ⟨A, n, c, f, q4, i1, i2⟩ := open_intsU h4 hs4
      simp only [List.cons.injEq, and_true] at q0 q1 q2 q3 q4
      subst q0 q1 q2 q3 q4
      exact ⟨a0, a1, a2, a3, A, n, c, f, rfl, ⟨i1, i2⟩, w2, w3⟩
/-- What is known of the lists and numbers of three vertices. -/
def VOkU (w : World) (z u : Int) (A : Option Addr) (n c : Nat) (f : Nat → Int) : Prop := (n ≤ 1048576 ∧ Sl w A n c f) ∧ (Lit.int .i64 z).wf = true ∧ (Lit.int .i64 u).wf = true
theorem open_vertsU {fuel : Nat} {cs : List Value} {x : DataW H × List MemPlace} (h : DataW.trod enc Try.prog w base spare held fuel 25 cs = some x) (hs : BulkU x.1) :
    ∃ (x0 y0 z0 u0 : Int) (A0 : Option Addr) (n0 c0 : Nat) (f0 : Nat → Int) (x1 y1 z1 u1 : Int) (A1 : Option Addr) (n1 c1 : Nat) (f1 : Nat → Int) (x2 y2 z2 u2 : Int) (A2 : Option Addr) (n2 c2 : Nat) (f2 : Nat → Int),
      cs = [.int .i64 x0, .int .i64 y0, .int .i64 z0, .int .i64 u0, .slice A0 n0 c0, .int .i64 x1, .int .i64 y1, .int .i64 z1, .int .i64 u1, .slice A1 n1 c1, .int .i64 x2, .int .i64 y2, .int .i64 z2, .int .i64 u2, .slice A2 n2 c2] ∧ VOkU w z0 u0 A0 n0 c0 f0 ∧ VOkU w z1 u1 A1 n1 c1 f1 ∧ VOkU w z2 u2 A2 n2 c2 f2 := by
  obtain ⟨xs, k, _, hx, hlen, hxl, hf⟩ := DataW.trod_array Try.underlying25 h
  have hl : cs.length = 15 := hlen.trans (by kernel_rfl)
  match cs, hl with
  | [b0, b1, b2, b3, b4, b5, b6, b7, b8, b9, b10, b11, b12, b13, b14], _ =>
    match xs, hxl with
    | [s0, s1, s2], _ =>
      have h0 := hf 0 (by omega)
      have h1 := hf 1 (by omega)
      have h2 := hf 2 (by omega)
      have e1 : Try.prog.cellsOf 24 = 5 := by kernel_rfl
      simp only [e1, Nat.zero_mul, Nat.one_mul, Nat.reduceMul, List.drop_succ_cons, List.drop_zero, List.take_succ_cons, List.take_zero, List.getElem?_cons_zero, List.getElem?_cons_succ] at h0 h1 h2
      rw [hx] at hs
      obtain ⟨x0, y0, z0, u0, A0, n0, c0, f0, q0, v0⟩ := open_vertexU h0 (bulk_part (j := 0) (d := s0.1) hs rfl)
      obtain ⟨x1, y1, z1, u1, A1, n1, c1, f1, q1, v1⟩ := open_vertexU h1 (bulk_part (j := 1) (d := s1.1) hs rfl)
      obtain ⟨x2, y2, z2, u2, A2, n2, c2, f2, q2, v2⟩ := open_vertexU h2 (bulk_part (j := 2) (d := s2.1) hs rfl)
      simp only [List.cons.injEq, and_true] at q0 q1 q2
      obtain ⟨rfl, rfl, rfl, rfl, rfl⟩ := q0
      obtain ⟨rfl, rfl, rfl, rfl, rfl⟩ := q1
      obtain ⟨rfl, rfl, rfl, rfl, rfl⟩ := q2
      exact ⟨x0, y0, z0, u0, A0, n0, c0, f0, x1, y1, z1, u1, A1, n1, c1, f1, x2, y2, z2, u2, A2, n2, c2, f2, rfl, v0, v1, v2⟩
theorem open_triU {fuel : Nat} {cs : List Value} {x : DataW H × List MemPlace} (h : DataW.trod enc Try.prog w base spare held fuel 27 cs = some x) (hs : BulkU x.1) :
    ∃ (x0 y0 z0 u0 : Int) (A0 : Option Addr) (n0 c0 : Nat) (f0 : Nat → Int) (x1 y1 z1 u1 : Int) (A1 : Option Addr) (n1 c1 : Nat) (f1 : Nat → Int) (x2 y2 z2 u2 : Int) (A2 : Option Addr) (n2 c2 : Nat) (f2 : Nat → Int) (pr : Int) (fr : Bool),
      cs = [.int .i64 x0, .int .i64 y0, .int .i64 z0, .int .i64 u0, .slice A0 n0 c0, .int .i64 x1, .int .i64 y1, .int .i64 z1, .int .i64 u1, .slice A1 n1 c1, .int .i64 x2, .int .i64 y2, .int .i64 z2, .int .i64 u2, .slice A2 n2 c2, .int .i64 pr, .bool fr] ∧ VOkU w z0 u0 A0 n0 c0 f0 ∧ VOkU w z1 u1 A1 n1 c1 f1 ∧ VOkU w z2 u2 A2 n2 c2 f2 := by
  obtain ⟨xs, k, _, hx, hlen, hxl, hf⟩ := DataW.trod_struct Try.underlying27 h
  have hl : cs.length = 17 := hlen.trans (by kernel_rfl)
  have hxl' : xs.length = 3 := hxl
  match cs, hl with
  | [b0, b1, b2, b3, b4, b5, b6, b7, b8, b9, b10, b11, b12, b13, b14, b15, b16], _ =>
    match xs, hxl' with
    | [s0, s1, s2], _ =>
      have h0 := hf 0 _ rfl
      have h1 := hf 1 _ rfl
      have h2 := hf 2 _ rfl
      have e0 : Try.prog.cellsOf 25 = 15 := by kernel_rfl
      have e1 : Try.prog.cellsOf 3 = 1 := by kernel_rfl
      have e2 : Try.prog.cellsOf 4 = 1 := by kernel_rfl
      simp only [List.getElem_toArray, List.getElem_cons_zero, List.getElem_cons_succ, e0, e1, e2, List.drop_succ_cons, List.drop_zero, List.take_succ_cons, List.take_zero, List.getElem?_cons_zero, List.getElem?_cons_succ] at h0 h1 h2
      rw [hx] at hs
      obtain ⟨x0, y0, z0, u0, A0, n0, c0, f0, x1, y1, z1, u1, A1, n1, c1, f1, x2, y2, z2, u2, A2, n2, c2, f2, q0, v⟩ := open_vertsU h0 (bulk_part (j := 0) (d := s0.1) hs rfl)
      obtain ⟨pr, q1, _, _⟩ := DataW.trod_int Try.underlying3 h1
      obtain ⟨fr, q2, _⟩ := DataW.trod_bool Try.underlying4 h2
      simp only [List.cons.injEq, and_true] at q0 q1 q2
      obtain ⟨rfl, rfl, rfl, rfl, rfl, rfl, rfl, rfl, rfl, rfl, rfl, rfl, rfl, rfl, rfl⟩ := q0
      subst q1 q2
      exact ⟨x0, y0, z0, u0, A0, n0, c0, f0, x1, y1, z1, u1, A1, n1, c1, f1, x2, y2, z2, u2, A2, n2, c2, f2, pr, fr, rfl, v⟩
theorem open_triU2 {r : Reach} {b0 : Nat} {v : Value} {d : DataW H} {p : List MemPlace} (hv : Value.okWide Try.prog w r b0 27 v) (h : DataW.Trod enc Try.prog w base spare held 27 v d p) (hs : BulkU d) :
    ∃ (x0 y0 z0 u0 : Int) (A0 : Option Addr) (n0 c0 : Nat) (f0 : Nat → Int) (x1 y1 z1 u1 : Int) (A1 : Option Addr) (n1 c1 : Nat) (f1 : Nat → Int) (x2 y2 z2 u2 : Int) (A2 : Option Addr) (n2 c2 : Nat) (f2 : Nat → Int) (pr : Int) (fr : Bool),
      v = .agg #[.int .i64 x0, .int .i64 y0, .int .i64 z0, .int .i64 u0, .slice A0 n0 c0, .int .i64 x1, .int .i64 y1, .int .i64 z1, .int .i64 u1, .slice A1 n1 c1, .int .i64 x2, .int .i64 y2, .int .i64 z2, .int .i64 u2, .slice A2 n2 c2, .int .i64 pr, .bool fr] ∧ VOkU w z0 u0 A0 n0 c0 f0 ∧ VOkU w z1 u1 A1 n1 c1 f1 ∧ VOkU w z2 u2 A2 n2 c2 f2 := by
  unfold Value.okWide at hv
  rw [Try.underlying27] at hv
  obtain ⟨cs, rfl, _, _⟩ := hv
  obtain ⟨fuel, hf⟩ := h
  obtain ⟨x0, y0, z0, u0, A0, n0, c0, f0, x1, y1, z1, u1, A1, n1, c1, f1, x2, y2, z2, u2, A2, n2, c2, f2, pr, fr, e, rest⟩ := open_triU hf hs
  refine ⟨x0, y0, z0, u0, A0, n0, c0, f0, x1, y1, z1, u1, A1, n1, c1, f1, x2, y2, z2, u2, A2, n2, c2, f2, pr, fr, ?_, rest⟩
  obtain ⟨cs⟩ := cs
  simp only [Value.cells] at e
  rw [e]
end
end Go.Proofs.Ythbagegkcpblgaa
