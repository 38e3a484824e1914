/- Arguments that hold lists of numbers (a vertex, a triple of vertices, a triangle), opened to their cells, with what is known of their lists; what the form's reach says of them. -/
import Derived.Test.YthbagegkcpblgaaOwn
import Derived.Test.YthbagegkcpblgaaSl
namespace Go.Proofs.Ythbagegkcpblgaa
open Go.ChangeShapes Go.WideShapes Go.ChangeAt Go.RowKit
section
variable {H : Type}
/-- No string and no slice in it is larger than the form's reach. -/
def Small (P : Program) (t : TypeId) (d : DataW H) : Prop := (d.weights P t).all (· ≤ reachBytes) = true
theorem small_each {P : Program} {ts : List TypeId} {ds : List (DataW H)} (h : (DataW.weightsEach P ts ds).all (· ≤ reachBytes) = true) {j : Nat} {t : TypeId} {d : DataW H} (ht : ts[j]? = some t) (hd : ds[j]? = some d) : Small P t d := by
  unfold Small
  rw [List.all_eq_true] at h ⊢
  exact fun n hn => h n (DataW.weights_mem_each ht hd n hn)
theorem weights_mem_all {P : Program} {e : TypeId} : ∀ {ds : List (DataW H)} {j : Nat} {d : DataW H}, ds[j]? = some d → ∀ n ∈ d.weights P e, n ∈ DataW.weightsAll P e ds
  | [], _, _, h, _, _ => by simp at h
  | d0 :: ds, 0, d, h, n, hn => by
    simp only [List.getElem?_cons_zero, Option.some.injEq] at h
    subst h
    simp only [DataW.weightsAll, List.mem_append]
    exact .inl hn
  | d0 :: ds, j + 1, d, h, n, hn => by
    simp only [List.getElem?_cons_succ] at h
    simp only [DataW.weightsAll, List.mem_append]
    exact .inr (weights_mem_all h n hn)
theorem small_all {P : Program} {e : TypeId} {ds : List (DataW H)} (h : (DataW.weightsAll P e ds).all (· ≤ reachBytes) = true) {j : Nat} {d : DataW H} (hd : ds[j]? = some d) : Small P e d := by
  unfold Small
  rw [List.all_eq_true] at h ⊢
  exact fun n hn => h n (weights_mem_all hd n hn)
theorem small_struct {P : Program} {t : TypeId} {parts : List (DataW H)} {fs : Array Field} (h : Small P t (.agg parts)) (hu : P.underlying t = some (.struct fs)) : (DataW.weightsEach P (fs.toList.map (·.type)) parts).all (· ≤ reachBytes) = true := by
  unfold Small at h
  rw [DataW.weights, hu] at h
  exact h
theorem small_array {P : Program} {t e : TypeId} {n : Nat} {parts : List (DataW H)} (h : Small P t (.agg parts)) (hu : P.underlying t = some (.array n e)) : (DataW.weightsAll P e parts).all (· ≤ reachBytes) = true := by
  unfold Small at h
  rw [DataW.weights, hu] at h
  exact h
theorem small_slice {P : Program} {t e : TypeId} {el sp : List (DataW H)} (h : Small P t (.slice el sp)) (hu : P.underlying t = some (.slice e)) : (el.length + sp.length) * P.bytesOf e ≤ reachBytes ∧ (DataW.weightsAll P e el).all (· ≤ reachBytes) = true := by
  unfold Small at h
  rw [DataW.weights, hu] at h
  simp only [List.all_cons, List.all_append, Bool.and_eq_true, decide_eq_true_eq] at h
  exact ⟨h.1, h.2.1⟩
end
section
variable {H : Type} {enc : TypeId × Value → H} {w : World} {base : Nat} {spare : Nat → Bool} {held : Bool}
theorem open_intsS {fuel : Nat} {cs : List Value} {x : DataW H × List MemPlace} (h : DataW.trod enc Try.prog w base spare held fuel 22 cs = some x) (hs : Small Try.prog 22 x.1) :
    ∃ (A : Option Addr) (n c : Nat) (f : Nat → Int), cs = [.slice A n c] ∧ n ≤ 17592186043904 ∧ Sl w A n c f := by
  have e8 : Try.prog.bytesOf 3 = 8 := by kernel_rfl
  rcases open_ints Try.underlying22 Try.underlying3 (by kernel_rfl) h with ⟨hcs, hx⟩ | ⟨a, len, cap, zs, hcs, hb, hl, hm, hz, hx, hcell, hwz⟩
  · exact ⟨none, 0, 0, fun _ => 0, hcs, by omega, Sl.none _ _⟩
  · have hzl : len ≤ zs.length := by rw [hz]; split <;> omega
    refine ⟨some a, len, cap, fun i => zs.getD i 0, hcs, ?_, Sl.some ⟨fun h0 => ?_, fun i hi => hcell i (by omega)⟩⟩
    · rw [hx] at hs
      have hd := (small_slice hs Try.underlying22).1
      rw [e8] at hd
      have e1 : (lits (H := H) IntKind.i64 (zs.take len)).length = len := by simp [lits, hzl]
      have hr : reachBytes = 140737488351232 := by decide
      omega
    · have := World.block_lt_of_cell? w _ (hcell 0 (by omega))
      simpa [Addr.add] using this
theorem open_vertexS {fuel : Nat} {cs : List Value} {x : DataW H × List MemPlace} (h : DataW.trod enc Try.prog w base spare held fuel 24 cs = some x) (hs : Small Try.prog 24 x.1) :
    ∃ (x0 y0 z0 u0 : Int) (A0 : Option Addr) (n0 c0 : Nat) (f0 : Nat → Int), cs = [.int .i64 x0, .int .i64 y0, .int .i64 z0, .int .i64 u0, .slice A0 n0 c0] ∧ (n0 ≤ 17592186043904 ∧ Sl w A0 n0 c0 f0) ∧ (Lit.int .i64 z0).wf = true ∧ (Lit.int .i64 u0).wf = true := by
  obtain ⟨xs, k, _, hx, hlen, hxl, hf⟩ := DataW.trod_struct Try.underlying24 h
  have hl : cs.length = 5 := hlen.trans (by kernel_rfl)
  have hxl' : xs.length = 5 := hxl
  match cs, hl with
  | [c0, c1, c2, c3, c4], _ =>
    match xs, hxl' with
    | [y0, y1, y2, y3, y4], _ =>
      have h0 := hf 0 _ rfl
      have h1 := hf 1 _ rfl
      have h2 := hf 2 _ rfl
      have h3 := hf 3 _ rfl
      have h4 := hf 4 _ rfl
      have e1 : Try.prog.cellsOf 3 = 1 := by kernel_rfl
      have e2 : Try.prog.cellsOf 22 = 1 := by kernel_rfl
      simp only [List.getElem_toArray, List.getElem_cons_zero, List.getElem_cons_succ, e1, e2, List.drop_succ_cons, List.drop_zero, List.take_succ_cons, List.take_zero, List.getElem?_cons_zero, List.getElem?_cons_succ] at h0 h1 h2 h3 h4
      obtain ⟨a0, q0, p0, w0⟩ := DataW.trod_int Try.underlying3 h0
      obtain ⟨a1, q1, p1, w1⟩ := DataW.trod_int Try.underlying3 h1
      obtain ⟨a2, q2, p2, w2⟩ := DataW.trod_int Try.underlying3 h2
      obtain ⟨a3, q3, p3, w3⟩ := DataW.trod_int Try.underlying3 h3
      rw [hx] at hs
      have hs4 := small_each (small_struct hs Try.underlying24) (j := 4) (t := 22) (d := y4.1) rfl rfl
      obtain ⟨A, n, c, f, q4, i1, i2⟩ := open_intsS h4 hs4
      simp only [List.cons.injEq, and_true] at q0 q1 q2 q3 q4
      subst q0 q1 q2 q3 q4
      exact ⟨a0, a1, a2, a3, A, n, c, f, rfl, ⟨i1, i2⟩, w2, w3⟩
/-- What is known of the lists and numbers of three vertices. -/
def VOk (w : World) (z u : Int) (A : Option Addr) (n c : Nat) (f : Nat → Int) : Prop := (n ≤ 17592186043904 ∧ Sl w A n c f) ∧ (Lit.int .i64 z).wf = true ∧ (Lit.int .i64 u).wf = true
theorem open_vertsS {fuel : Nat} {cs : List Value} {x : DataW H × List MemPlace} (h : DataW.trod enc Try.prog w base spare held fuel 25 cs = some x) (hs : Small Try.prog 25 x.1) :
    ∃ (x0 y0 z0 u0 : Int) (A0 : Option Addr) (n0 c0 : Nat) (f0 : Nat → Int) (x1 y1 z1 u1 : Int) (A1 : Option Addr) (n1 c1 : Nat) (f1 : Nat → Int) (x2 y2 z2 u2 : Int) (A2 : Option Addr) (n2 c2 : Nat) (f2 : Nat → Int),
      cs = [.int .i64 x0, .int .i64 y0, .int .i64 z0, .int .i64 u0, .slice A0 n0 c0, .int .i64 x1, .int .i64 y1, .int .i64 z1, .int .i64 u1, .slice A1 n1 c1, .int .i64 x2, .int .i64 y2, .int .i64 z2, .int .i64 u2, .slice A2 n2 c2] ∧ VOk w z0 u0 A0 n0 c0 f0 ∧ VOk w z1 u1 A1 n1 c1 f1 ∧ VOk w z2 u2 A2 n2 c2 f2 := by
  obtain ⟨xs, k, _, hx, hlen, hxl, hf⟩ := DataW.trod_array Try.underlying25 h
  have hl : cs.length = 15 := hlen.trans (by kernel_rfl)
  match cs, hl with
  | [b0, b1, b2, b3, b4, b5, b6, b7, b8, b9, b10, b11, b12, b13, b14], _ =>
    match xs, hxl with
    | [s0, s1, s2], _ =>
      have h0 := hf 0 (by omega)
      have h1 := hf 1 (by omega)
      have h2 := hf 2 (by omega)
      have e1 : Try.prog.cellsOf 24 = 5 := by kernel_rfl
      simp only [e1, Nat.zero_mul, Nat.one_mul, Nat.reduceMul, List.drop_succ_cons, List.drop_zero, List.take_succ_cons, List.take_zero, List.getElem?_cons_zero, List.getElem?_cons_succ] at h0 h1 h2
      rw [hx] at hs
      have hs' := small_array hs Try.underlying25
      obtain ⟨x0, y0, z0, u0, A0, n0, c0, f0, q0, v0⟩ := open_vertexS h0 (small_all hs' (j := 0) (d := s0.1) rfl)
      obtain ⟨x1, y1, z1, u1, A1, n1, c1, f1, q1, v1⟩ := open_vertexS h1 (small_all hs' (j := 1) (d := s1.1) rfl)
      obtain ⟨x2, y2, z2, u2, A2, n2, c2, f2, q2, v2⟩ := open_vertexS h2 (small_all hs' (j := 2) (d := s2.1) rfl)
      simp only [List.cons.injEq, and_true] at q0 q1 q2
      obtain ⟨rfl, rfl, rfl, rfl, rfl⟩ := q0
      obtain ⟨rfl, rfl, rfl, rfl, rfl⟩ := q1
      obtain ⟨rfl, rfl, rfl, rfl, rfl⟩ := q2
      exact ⟨x0, y0, z0, u0, A0, n0, c0, f0, x1, y1, z1, u1, A1, n1, c1, f1, x2, y2, z2, u2, A2, n2, c2, f2, rfl, v0, v1, v2⟩
end
end Go.Proofs.Ythbagegkcpblgaa
