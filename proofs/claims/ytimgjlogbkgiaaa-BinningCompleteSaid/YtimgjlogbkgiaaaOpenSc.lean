/- A scene (a list of triangles in an image), opened to its cells. -/
import Derived.Test.YtimgjlogbkgiaaaOpenT
import Derived.Test.YtimgjlogbkgiaaaBin
import Derived.Deep.Slices
namespace Go.Proofs.Ytimgjlogbkgiaaa
open Go.ChangeShapes Go.WideShapes Go.ChangeAt Go.RowKit Go.Deep
section
variable {H : Type} {enc : TypeId × Value → H} {w : World} {base : Nat} {spare : Nat → Bool} {held : Bool}
theorem open_trisS {fuel : Nat} {cs : List Value} {x : DataW H × List MemPlace} (h : DataW.trod enc Try.prog w base spare held fuel 40 cs = some x) :
    ∃ (A : Option Addr) (n c : Nat) (T : Nat → Array Value), cs = [.slice A n c] ∧ TrisW w A n c T := by
  have e17 : Try.prog.cellsOf 37 = 17 := by kernel_rfl
  rcases open_slice Try.underlying40 h with ⟨rfl, -⟩ | ⟨a, len, cap, m, k, D, Pl, rfl, hb, hl, hm, hmm, -, hx⟩
  · exact ⟨none, 0, 0, fun _ => #[], rfl, fun _ => ⟨rfl, rfl⟩, fun i hi => absurd hi (Nat.not_lt_zero i), fun h => absurd h (Nat.lt_irrefl _)⟩
  · have hlm : len ≤ m := by rw [hmm]; split <;> omega
    rw [e17] at hx
    obtain ⟨C, hC⟩ := choose_lt (α := List Value) (p := fun i cs' => w.cells? base (a.add (i * 17)) 17 = some cs' ∧ DataW.trod enc Try.prog w base spare held k 37 cs' = some (D i, Pl i)) hx
    refine ⟨some a, len, cap, fun i => (C i).toArray, rfl, nofun, fun i hi => ?_, fun h0 => ?_⟩
    · obtain ⟨x0, y0, z0, u0, A0, n0, c0, x1, y1, z1, u1, A1, n1, c1, x2, y2, z2, u2, A2, n2, c2, pr, fr, e⟩ := open_tri (hC i (by omega)).2
      exact ⟨x0, y0, z0, u0, x1, y1, z1, u1, x2, y2, z2, u2, A0, A1, A2, n0, c0, n1, c1, n2, c2, pr, fr, by rw [e]⟩
    · obtain ⟨-, hlen0, hc0⟩ := World.cells?_some (hC 0 (by omega)).1
      have h00 := hc0 0 (by omega)
      obtain ⟨v0, hv0⟩ : ∃ v, (C 0)[0]? = some v := ⟨(C 0)[0]'(by omega), by simp [hlen0]⟩
      rw [hv0] at h00
      obtain ⟨b, off, spot⟩ := a
      have hspot : spot = none := by simpa [Addr.add] using World.cell?_spot h00
      subst hspot
      have hlt : b < w.heap.size := by
        have := World.block_lt_of_cell? w _ h00
        simpa [Addr.add] using this
      refine ⟨b, off, rfl, hlt, fun i hi j v hv => ?_⟩
      obtain ⟨-, hlen, hc⟩ := World.cells?_some (hC i (by omega)).1
      have hv' : (C i)[j]? = some v := by simpa using hv
      have hj : j < 17 := by rw [← hlen]; exact (List.getElem?_eq_some_iff.1 hv').1
      have := hc j hj
      rw [add_off, add_off, hv'] at this
      exact this
theorem open_sceneS {fuel : Nat} {cs : List Value} {x : DataW H × List MemPlace} (h : DataW.trod enc Try.prog w base spare held fuel 42 cs = some x) :
    ∃ (A : Option Addr) (n c : Nat) (T : Nat → Array Value) (sw sh : Int), cs = [.slice A n c, .int .i64 sw, .int .i64 sh] ∧ TrisW w A n c T := by
  obtain ⟨xs, k, _, hx, hlen, hxl, hf⟩ := DataW.trod_struct Try.underlying42 h
  have hl : cs.length = 3 := hlen.trans (by kernel_rfl)
  have hxl' : xs.length = 3 := hxl
  match cs, hl with
  | [b0, b1, b2], _ =>
    match xs, hxl' with
    | [s0, s1, s2], _ =>
      have h0 := hf 0 _ rfl
      have h1 := hf 1 _ rfl
      have h2 := hf 2 _ rfl
      have e0 : Try.prog.cellsOf 40 = 1 := by kernel_rfl
      have e1 : Try.prog.cellsOf 3 = 1 := by kernel_rfl
      simp only [List.getElem_toArray, List.getElem_cons_zero, List.getElem_cons_succ, e0, e1, List.drop_succ_cons, List.drop_zero, List.take_succ_cons, List.take_zero, List.getElem?_cons_zero, List.getElem?_cons_succ] at h0 h1 h2
      obtain ⟨A, n, c, T, q0, hT⟩ := open_trisS h0
      obtain ⟨sw, q1, _, _⟩ := DataW.trod_int Try.underlying3 h1
      obtain ⟨sh, q2, _, _⟩ := DataW.trod_int Try.underlying3 h2
      simp only [List.cons.injEq, and_true] at q0 q1 q2
      subst q0 q1 q2
      exact ⟨A, n, c, T, sw, sh, rfl, hT⟩
theorem open_sceneW {r : Reach} {b0 : Nat} {v : Value} {d : DataW H} {p : List MemPlace} (hv : Value.okWide Try.prog w r b0 42 v) (h : DataW.Trod enc Try.prog w base spare held 42 v d p) :
    ∃ (A : Option Addr) (n c : Nat) (T : Nat → Array Value) (sw sh : Int), v = .agg #[.slice A n c, .int .i64 sw, .int .i64 sh] ∧ TrisW w A n c T := by
  unfold Value.okWide at hv
  rw [Try.underlying42] at hv
  obtain ⟨cs, rfl, _, _⟩ := hv
  obtain ⟨fuel, hf⟩ := h
  obtain ⟨A, n, c, T, sw, sh, e, hT⟩ := open_sceneS hf
  refine ⟨A, n, c, T, sw, sh, ?_, hT⟩
  obtain ⟨cs⟩ := cs
  simp only [Value.cells] at e
  rw [e]
end
end Go.Proofs.Ytimgjlogbkgiaaa
