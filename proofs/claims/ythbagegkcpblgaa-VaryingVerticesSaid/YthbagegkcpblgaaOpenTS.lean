/- A triangle with its lists, opened to its cells. -/
import Derived.Test.YthbagegkcpblgaaOpenW
namespace Go.Proofs.Ythbagegkcpblgaa
open Go.ChangeShapes Go.WideShapes Go.ChangeAt Go.RowKit
section
variable {H : Type} {enc : TypeId × Value → H} {w : World} {base : Nat} {spare : Nat → Bool} {held : Bool}
theorem open_triS {fuel : Nat} {cs : List Value} {x : DataW H × List MemPlace} (h : DataW.trod enc Try.prog w base spare held fuel 27 cs = some x) (hs : Small Try.prog 27 x.1) :
    ∃ (x0 y0 z0 u0 : Int) (A0 : Option Addr) (n0 c0 : Nat) (f0 : Nat → Int) (x1 y1 z1 u1 : Int) (A1 : Option Addr) (n1 c1 : Nat) (f1 : Nat → Int) (x2 y2 z2 u2 : Int) (A2 : Option Addr) (n2 c2 : Nat) (f2 : Nat → Int) (pr : Int) (fr : Bool),
      cs = [.int .i64 x0, .int .i64 y0, .int .i64 z0, .int .i64 u0, .slice A0 n0 c0, .int .i64 x1, .int .i64 y1, .int .i64 z1, .int .i64 u1, .slice A1 n1 c1, .int .i64 x2, .int .i64 y2, .int .i64 z2, .int .i64 u2, .slice A2 n2 c2, .int .i64 pr, .bool fr] ∧ VOk w z0 u0 A0 n0 c0 f0 ∧ VOk w z1 u1 A1 n1 c1 f1 ∧ VOk w z2 u2 A2 n2 c2 f2 := by
  obtain ⟨xs, k, _, hx, hlen, hxl, hf⟩ := DataW.trod_struct Try.underlying27 h
  have hl : cs.length = 17 := hlen.trans (by kernel_rfl)
  have hxl' : xs.length = 3 := hxl
  match cs, hl with
  | [b0, b1, b2, b3, b4, b5, b6, b7, b8, b9, b10, b11, b12, b13, b14, b15, b16], _ =>
    match xs, hxl' with
    | [s0, s1, s2], _ =>
      have h0 := hf 0 _ rfl
      have h1 := hf 1 _ rfl
      have h2 := hf 2 _ rfl
      have e0 : Try.prog.cellsOf 25 = 15 := by kernel_rfl
      have e1 : Try.prog.cellsOf 3 = 1 := by kernel_rfl
      have e2 : Try.prog.cellsOf 4 = 1 := by kernel_rfl
      simp only [List.getElem_toArray, List.getElem_cons_zero, List.getElem_cons_succ, e0, e1, e2, List.drop_succ_cons, List.drop_zero, List.take_succ_cons, List.take_zero, List.getElem?_cons_zero, List.getElem?_cons_succ] at h0 h1 h2
      rw [hx] at hs
      obtain ⟨x0, y0, z0, u0, A0, n0, c0, f0, x1, y1, z1, u1, A1, n1, c1, f1, x2, y2, z2, u2, A2, n2, c2, f2, q0, v⟩ := open_vertsS h0 (small_each (small_struct hs Try.underlying27) (j := 0) (t := 25) (d := s0.1) rfl rfl)
      obtain ⟨pr, q1, _, _⟩ := DataW.trod_int Try.underlying3 h1
      obtain ⟨fr, q2, _⟩ := DataW.trod_bool Try.underlying4 h2
      simp only [List.cons.injEq, and_true] at q0 q1 q2
      obtain ⟨rfl, rfl, rfl, rfl, rfl, rfl, rfl, rfl, rfl, rfl, rfl, rfl, rfl, rfl, rfl⟩ := q0
      subst q1 q2
      exact ⟨x0, y0, z0, u0, A0, n0, c0, f0, x1, y1, z1, u1, A1, n1, c1, f1, x2, y2, z2, u2, A2, n2, c2, f2, pr, fr, rfl, v⟩
theorem open_triW {r : Reach} {b0 : Nat} {v : Value} {d : DataW H} {p : List MemPlace} (hv : Value.okWide Try.prog w r b0 27 v) (h : DataW.Trod enc Try.prog w base spare held 27 v d p) (hs : Small Try.prog 27 d) :
    ∃ (x0 y0 z0 u0 : Int) (A0 : Option Addr) (n0 c0 : Nat) (f0 : Nat → Int) (x1 y1 z1 u1 : Int) (A1 : Option Addr) (n1 c1 : Nat) (f1 : Nat → Int) (x2 y2 z2 u2 : Int) (A2 : Option Addr) (n2 c2 : Nat) (f2 : Nat → Int) (pr : Int) (fr : Bool),
      v = .agg #[.int .i64 x0, .int .i64 y0, .int .i64 z0, .int .i64 u0, .slice A0 n0 c0, .int .i64 x1, .int .i64 y1, .int .i64 z1, .int .i64 u1, .slice A1 n1 c1, .int .i64 x2, .int .i64 y2, .int .i64 z2, .int .i64 u2, .slice A2 n2 c2, .int .i64 pr, .bool fr] ∧ VOk w z0 u0 A0 n0 c0 f0 ∧ VOk w z1 u1 A1 n1 c1 f1 ∧ VOk w z2 u2 A2 n2 c2 f2 := by
  unfold Value.okWide at hv
  rw [Try.underlying27] at hv
  obtain ⟨cs, rfl, _, _⟩ := hv
  obtain ⟨fuel, hf⟩ := h
  obtain ⟨x0, y0, z0, u0, A0, n0, c0, f0, x1, y1, z1, u1, A1, n1, c1, f1, x2, y2, z2, u2, A2, n2, c2, f2, pr, fr, e, rest⟩ := open_triS hf hs
  refine ⟨x0, y0, z0, u0, A0, n0, c0, f0, x1, y1, z1, u1, A1, n1, c1, f1, x2, y2, z2, u2, A2, n2, c2, f2, pr, fr, ?_, rest⟩
  obtain ⟨cs⟩ := cs
  simp only [Value.cells] at e
  rw [e]
end
end Go.Proofs.Ythbagegkcpblgaa
