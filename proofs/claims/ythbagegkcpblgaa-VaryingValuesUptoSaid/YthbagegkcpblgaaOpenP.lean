/- An argument that is a pair of integers, opened to its cells. -/
import Derived.Test.YthbagegkcpblgaaOwn
namespace Go.Proofs.Ythbagegkcpblgaa
open Go.ChangeShapes Go.WideShapes Go.ChangeAt Go.RowKit
section
variable {H : Type} {enc : TypeId × Value → H} {w : World} {base : Nat} {spare : Nat → Bool} {held : Bool}
theorem open_pair {fuel : Nat} {cs : List Value} {x : DataW H × List MemPlace} (h : DataW.trod enc Try.prog w base spare held fuel 28 cs = some x) :
    ∃ a b : Int, cs = [.int .i64 a, .int .i64 b] ∧ (Lit.int .i64 a).wf = true ∧ (Lit.int .i64 b).wf = true := by
  obtain ⟨xs, k, _, hx, hlen, hxl, hf⟩ := DataW.trod_array Try.underlying28 h
  have hl : cs.length = 2 := hlen.trans (by kernel_rfl)
  match cs, hl with
  | [b0, b1], _ =>
    match xs, hxl with
    | [s0, s1], _ =>
      have h0 := hf 0 (by omega)
      have h1 := hf 1 (by omega)
      have e1 : Try.prog.cellsOf 3 = 1 := by kernel_rfl
      simp only [e1, Nat.mul_one, List.drop_succ_cons, List.drop_zero, List.take_succ_cons, List.take_zero, List.getElem?_cons_zero, List.getElem?_cons_succ] at h0 h1
      obtain ⟨a0, q0, p0, w0⟩ := DataW.trod_int Try.underlying3 h0
      obtain ⟨a1, q1, p1, w1⟩ := DataW.trod_int Try.underlying3 h1
      simp only [List.cons.injEq, and_true] at q0 q1
      subst q0 q1
      exact ⟨a0, a1, rfl, w0, w1⟩
theorem open_pairV {r : Reach} {b0 : Nat} {v : Value} {d : DataW H} {p : List MemPlace} (hv : Value.okWide Try.prog w r b0 28 v) (h : DataW.Trod enc Try.prog w base spare held 28 v d p) :
    ∃ a b : Int, v = .agg #[.int .i64 a, .int .i64 b] ∧ (Lit.int .i64 a).wf = true ∧ (Lit.int .i64 b).wf = true := by
  unfold Value.okWide at hv
  rw [Try.underlying28] at hv
  obtain ⟨cs, rfl, _, _⟩ := hv
  obtain ⟨fuel, hf⟩ := h
  obtain ⟨a, b, e, rest⟩ := open_pair hf
  refine ⟨a, b, ?_, rest⟩
  obtain ⟨cs⟩ := cs
  simp only [Value.cells] at e
  rw [e]
end
end Go.Proofs.Ythbagegkcpblgaa
