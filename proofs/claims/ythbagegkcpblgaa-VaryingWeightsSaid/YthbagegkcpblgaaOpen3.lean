/- An argument that is three integers, opened to its cells. -/
import Derived.Test.YthbagegkcpblgaaOwn
namespace Go.Proofs.Ythbagegkcpblgaa
open Go.ChangeShapes Go.WideShapes Go.ChangeAt Go.RowKit
section
variable {H : Type} {enc : TypeId × Value → H} {w : World} {base : Nat} {spare : Nat → Bool} {held : Bool}
theorem open_triple {fuel : Nat} {cs : List Value} {x : DataW H × List MemPlace} (h : DataW.trod enc Try.prog w base spare held fuel 36 cs = some x) :
    ∃ a b c : Int, cs = [.int .i64 a, .int .i64 b, .int .i64 c] ∧ (Lit.int .i64 a).wf = true ∧ (Lit.int .i64 b).wf = true ∧ (Lit.int .i64 c).wf = true := by
  obtain ⟨xs, k, _, hx, hlen, hxl, hf⟩ := DataW.trod_array Try.underlying36 h
  have hl : cs.length = 3 := hlen.trans (by kernel_rfl)
  match cs, hl with
  | [b0, b1, b2], _ =>
    match xs, hxl with
    | [s0, s1, s2], _ =>
      have h0 := hf 0 (by omega)
      have h1 := hf 1 (by omega)
      have h2 := hf 2 (by omega)
      have e1 : Try.prog.cellsOf 3 = 1 := by kernel_rfl
      simp only [e1, Nat.mul_one, List.drop_succ_cons, List.drop_zero, List.take_succ_cons, List.take_zero, List.getElem?_cons_zero, List.getElem?_cons_succ] at h0 h1 h2
      obtain ⟨a0, q0, p0, w0⟩ := DataW.trod_int Try.underlying3 h0
      obtain ⟨a1, q1, p1, w1⟩ := DataW.trod_int Try.underlying3 h1
      obtain ⟨a2, q2, p2, w2⟩ := DataW.trod_int Try.underlying3 h2
      simp only [List.cons.injEq, and_true] at q0 q1 q2
      subst q0 q1 q2
      exact ⟨a0, a1, a2, rfl, w0, w1, w2⟩
theorem open_tripleV {r : Reach} {b0 : Nat} {v : Value} {d : DataW H} {p : List MemPlace} (hv : Value.okWide Try.prog w r b0 36 v) (h : DataW.Trod enc Try.prog w base spare held 36 v d p) :
    ∃ a b c : Int, v = .agg #[.int .i64 a, .int .i64 b, .int .i64 c] ∧ (Lit.int .i64 a).wf = true ∧ (Lit.int .i64 b).wf = true ∧ (Lit.int .i64 c).wf = true := by
  unfold Value.okWide at hv
  rw [Try.underlying36] at hv
  obtain ⟨cs, rfl, _, _⟩ := hv
  obtain ⟨fuel, hf⟩ := h
  obtain ⟨a, b, c, e, rest⟩ := open_triple hf
  refine ⟨a, b, c, ?_, rest⟩
  obtain ⟨cs⟩ := cs
  simp only [Value.cells] at e
  rw [e]
end
end Go.Proofs.Ythbagegkcpblgaa
