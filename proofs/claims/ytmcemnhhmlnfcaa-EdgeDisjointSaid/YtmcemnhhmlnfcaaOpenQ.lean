/- An argument that is four pairs of integers, opened to its cells. -/
import Derived.Test.YtmcemnhhmlnfcaaOpenP
namespace Go.Proofs.Ytmcemnhhmlnfcaa
open Go.ChangeShapes Go.WideShapes Go.ChangeAt Go.RowKit
section
variable {H : Type} {enc : TypeId × Value → H} {w : World} {base : Nat} {spare : Nat → Bool} {held : Bool}
theorem open_quad {fuel : Nat} {cs : List Value} {x : DataW H × List MemPlace} (h : DataW.trod enc Try.prog w base spare held fuel 40 cs = some x) :
    ∃ a b c d e f g i : Int, cs = [.int .i64 a, .int .i64 b, .int .i64 c, .int .i64 d, .int .i64 e, .int .i64 f, .int .i64 g, .int .i64 i] := by
  obtain ⟨xs, k, _, hx, hlen, hxl, hf⟩ := DataW.trod_array Try.underlying40 h
  have hl : cs.length = 8 := hlen.trans (by kernel_rfl)
  match cs, hl with
  | [b0, b1, b2, b3, b4, b5, b6, b7], _ =>
    match xs, hxl with
    | [s0, s1, s2, s3], _ =>
      have h0 := hf 0 (by omega)
      have h1 := hf 1 (by omega)
      have h2 := hf 2 (by omega)
      have h3 := hf 3 (by omega)
      have e1 : Try.prog.cellsOf 22 = 2 := by kernel_rfl
      simp only [e1, Nat.zero_mul, Nat.one_mul, Nat.reduceMul, List.drop_succ_cons, List.drop_zero, List.take_succ_cons, List.take_zero, List.getElem?_cons_zero, List.getElem?_cons_succ] at h0 h1 h2 h3
      obtain ⟨a, b, q0, _⟩ := open_pair h0
      obtain ⟨c, d, q1, _⟩ := open_pair h1
      obtain ⟨e, f, q2, _⟩ := open_pair h2
      obtain ⟨g, i, q3, _⟩ := open_pair h3
      simp only [List.cons.injEq, and_true] at q0 q1 q2 q3
      obtain ⟨rfl, rfl⟩ := q0
      obtain ⟨rfl, rfl⟩ := q1
      obtain ⟨rfl, rfl⟩ := q2
      obtain ⟨rfl, rfl⟩ := q3
      exact ⟨a, b, c, d, e, f, g, i, rfl⟩
theorem open_quadV {r : Reach} {b0 : Nat} {v : Value} {d : DataW H} {p : List MemPlace} (hv : Value.okWide Try.prog w r b0 40 v) (h : DataW.Trod enc Try.prog w base spare held 40 v d p) :
    ∃ a b c d e f g i : Int, v = .agg #[.int .i64 a, .int .i64 b, .int .i64 c, .int .i64 d, .int .i64 e, .int .i64 f, .int .i64 g, .int .i64 i] := by
  unfold Value.okWide at hv
  rw [Try.underlying40] at hv
  obtain ⟨cs, rfl, _, _⟩ := hv
  obtain ⟨fuel, hf⟩ := h
  obtain ⟨a, b, c, d, e, f, g, i, e'⟩ := open_quad hf
  refine ⟨a, b, c, d, e, f, g, i, ?_⟩
  obtain ⟨cs⟩ := cs
  simp only [Value.cells] at e'
  rw [e']
end
end Go.Proofs.Ytmcemnhhmlnfcaa
