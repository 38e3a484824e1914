/- A block that is known whole: what a walk needs to know of it, and that it is kept by draws, by new blocks, and by calls that leave old memory alone. -/
import Derived.Test.YthbagegkcpblgaaBase
namespace Go.Proofs.Ythbagegkcpblgaa
open Go.RowKit
/-- Block b is just the cells cs of type t, none frozen. -/
def Blk (W : World) (b : Nat) (t : TypeId) (cs : Array Value) : Prop := W.heap[b]? = some (.cells cs t (0, 0))
section
variable {w W W' : World} {b : Nat} {t : TypeId} {cs : Array Value}
theorem Blk.lt (h : Blk W b t cs) : b < W.heap.size := by
  rcases Nat.lt_or_ge b W.heap.size with hlt | hge
  · exact hlt
  · unfold Blk at h; rw [Array.getElem?_eq_none hge] at h; cases h
theorem Blk.cell (h : Blk W b t cs) (i : Nat) : W.cell? ⟨b, i, none⟩ = cs[i]? := cell_of_row W b i cs t (0, 0) h
theorem Blk.frozen (h : Blk W b t cs) (i : Nat) : W.frozen? ⟨b, i, none⟩ = false := by
  unfold Blk at h
  simp [World.frozen?, h]
theorem Blk.drew (h : Blk W b t cs) : Blk W.drew b t cs := h
theorem Blk.drewN (h : Blk W b t cs) (n : Nat) : Blk (W.drewN n) b t cs := h
theorem Blk.alloc (h : Blk W b t cs) (o : Obj) : Blk (W.alloc o) b t cs := (Below.heap_alloc W o b h.lt).trans h
theorem Blk.new (W : World) (t : TypeId) (cs : Array Value) : Blk (W.alloc (.cells cs t)) W.heap.size t cs := by
  show (W.heap.push _)[W.heap.size]? = _
  simp
theorem Blk.new1 (W : World) (t : TypeId) (cs : Array Value) (o : Obj) : Blk ((W.alloc o).alloc (.cells cs t)) (W.heap.size + 1) t cs := by
  have := Blk.new (W.alloc o) t cs
  rwa [World.size_alloc] at this
theorem Blk.new2 (W : World) (t : TypeId) (cs : Array Value) (o o' : Obj) : Blk (((W.alloc o).alloc o').alloc (.cells cs t)) (W.heap.size + 1 + 1) t cs := by
  have := Blk.new1 (W.alloc o) t cs o'
  rwa [World.size_alloc] at this
theorem Blk.below {B : Nat} (h : Blk W b t cs) (hb : Below B W W') (hB : b < B) : Blk W' b t cs := (hb.block b hB).trans h
theorem Blk.call (h : Blk W b t cs) (hb : Below W.heap.size W W') : Blk W' b t cs := (hb.block b h.lt).trans h
theorem Blk.set_ (h : Blk W b t cs) (i : Nat) (u : Value) : Blk (W.setCell ⟨b, i, none⟩ u) b t (cs.setIfInBounds i u) := by
  unfold Blk at h ⊢
  simp [World.setCell, Array.getElem?_modify, h]
theorem Blk.far (h : Blk W b t cs) {p : Addr} (hp : b ≠ p.block) (u : Value) : Blk (W.setCell p u) b t cs := (Below.heap_setCell W p u b hp).trans h
end
/-- A whole array or struct loaded in a region that is walked once (wp_region_ext): with no unrolling. -/
theorem quiet_load_row {P : Program} {o : Oper} {a : Act} {K : Act → Prop} {w : World} {B : Nat} (ty : TypeId) (x : Operand) (ho : o.op = .load ty x)
    (g : Nat) (hx : a.eval x = .pointer (some ⟨g, 0, none⟩)) (t : TypeId) (cs : Array Value) (d : TypeDesc) (hg : w.heap[g]? = some (.cells cs t (0, 0))) (hB : g < B)
    (hu : P.underlying ty = some d) (hd : (match d with | .struct _ | .array _ _ => true | _ => false) = true) (hi : (P.info? ty).map (·.size) = some cs.size)
    (h : K (a.put o.dst (.agg cs))) : o.quiet P a (fun w' => ∃ n : Ext w B, w' = n.val) K := by
  refine ⟨.agg cs, ?_, h⟩
  rintro w' ⟨n, rfl⟩
  have hg' : n.val.heap[g]? = some (.cells cs t (0, 0)) := (n.below.block g hB).trans hg
  unfold Oper.quietAt execOp
  simp only [ho, hx, Instr.loadAt, Instr.sureAddr, Sem.run_bind, Sem.run_pure, Result.andThen_ok, run_loadVar_row n.val g t ty cs (0, 0) d hg' hu hd hi]
  exact ⟨rfl, rfl⟩
/-- A struct or an array in the midst of a block that is known whole, loaded with no unrolling. -/
theorem run_load_sub {P : Program} (w : World) (g off : Nat) (t ty : TypeId) (cs cs' : Array Value) (fr : Nat × Nat) (d : TypeDesc) (hg : w.heap[g]? = some (.cells cs t fr))
    (hsub : (cs.toList.drop off).take cs'.toList.length = cs'.toList)
    (hu : P.underlying ty = some d) (hd : (match d with | .struct _ | .array _ _ => true | _ => false) = true) (hi : (P.info? ty).map (·.size) = some cs'.size) :
    (loadVar ty ⟨g, off, none⟩).run P w = .ok (.agg cs') w := by
  have hl : (loadCells ⟨g, off, none⟩ cs'.toList.length).run P w = .ok cs'.toList.toArray w :=
    run_loadCells_list (P := P) w ⟨g, off, none⟩ cs'.toList (fun j v hv => by
      have hadd : (⟨g, off, none⟩ : Addr).add j = ⟨g, off + j, none⟩ := by unfold Addr.add; split <;> simp_all
      rw [hadd, cell_of_row w g (off + j) cs t fr hg]
      have hj : j < cs'.toList.length := (List.getElem?_eq_some_iff.1 hv).1
      rw [← hsub, List.getElem?_take, if_pos hj, List.getElem?_drop] at hv
      rw [← Array.getElem?_toList]
      exact hv)
  cases hq : P.info? ty with
  | none => simp [hq] at hi
  | some i =>
    have hs : i.size = cs'.size := by simpa [hq] using hi
    have hagg : (isAgg ty).run P w = .ok true w := by
      unfold isAgg
      rw [Sem.run_bind, run_underlying hu w]
      cases d <;> simp_all
    simp only [Array.length_toList, Array.toArray_toList] at hl
    simp [loadVar, Sem.run_bind, hagg, sizeOf, typeInfo, hq, hs, hl]
theorem wp_load_sub {P : Program} {o : Oper} {a : Act} {w : World} {K : Act → World → Prop} {Q : Exit → Act → World → Prop} (ty : TypeId) (x : Operand) (ho : o.op = .load ty x)
    (g off : Nat) (hx : a.eval x = .pointer (some ⟨g, off, none⟩)) (t : TypeId) (cs cs' : Array Value) (fr : Nat × Nat) (d : TypeDesc) (hg : w.heap[g]? = some (.cells cs t fr))
    (hsub : (cs.toList.drop off).take cs'.toList.length = cs'.toList)
    (hu : P.underlying ty = some d) (hd : (match d with | .struct _ | .array _ _ => true | _ => false) = true) (hi : (P.info? ty).map (·.size) = some cs'.size)
    (h : K (a.put o.dst (.agg cs')) w) : o.wp P a w K Q := by
  unfold Oper.wp execOp
  simp only [ho, hx, Instr.loadAt, Instr.sureAddr, Sem.run_bind, Sem.run_pure, Result.andThen_ok, run_load_sub w g off t ty cs cs' fr d hg hsub hu hd hi]
  exact h
theorem wpList_load_sub {P : Program} {ops : Array Oper} {rest : List Oper} {o : Oper} {a : Act} {w : World} {Q : Exit → Act → World → Prop} (hgd : o.guard = none) (ty : TypeId) (x : Operand) (ho : o.op = .load ty x)
    (g off : Nat) (hx : a.eval x = .pointer (some ⟨g, off, none⟩)) (t : TypeId) (cs cs' : Array Value) (fr : Nat × Nat) (d : TypeDesc) (hg : w.heap[g]? = some (.cells cs t fr))
    (hsub : (cs.toList.drop off).take cs'.toList.length = cs'.toList)
    (hu : P.underlying ty = some d) (hd : (match d with | .struct _ | .array _ _ => true | _ => false) = true) (hi : (P.info? ty).map (·.size) = some cs'.size)
    (h : wpList P ops Q rest (a.put o.dst (.agg cs')) w) : wpList P ops Q (o :: rest) a w :=
  wpList_plain hgd fun _ hK => wp_load_sub ty x ho g off hx t cs cs' fr d hg hsub hu hd hi (hK _ _ h)
theorem wpList_load_subG {P : Program} {ops : Array Oper} {rest : List Oper} {o : Oper} {a : Act} {w : World} {Q : Exit → Act → World → Prop} (hw : Region.wanted o (yielded ops a.tmps) = true) (ty : TypeId) (x : Operand) (ho : o.op = .load ty x)
    (g off : Nat) (hx : a.eval x = .pointer (some ⟨g, off, none⟩)) (t : TypeId) (cs cs' : Array Value) (fr : Nat × Nat) (d : TypeDesc) (hg : w.heap[g]? = some (.cells cs t fr))
    (hsub : (cs.toList.drop off).take cs'.toList.length = cs'.toList)
    (hu : P.underlying ty = some d) (hd : (match d with | .struct _ | .array _ _ => true | _ => false) = true) (hi : (P.info? ty).map (·.size) = some cs'.size)
    (h : wpList P ops Q rest (a.put o.dst (.agg cs')) w) : wpList P ops Q (o :: rest) a w :=
  wpList_step fun _ hK => by rw [if_pos hw]; exact wp_load_sub ty x ho g off hx t cs cs' fr d hg hsub hu hd hi (hK _ _ h)
theorem wpList_load_rowG {P : Program} {ops : Array Oper} {rest : List Oper} {o : Oper} {a : Act} {w : World} {Q : Exit → Act → World → Prop} (hw : Region.wanted o (yielded ops a.tmps) = true) (ty : TypeId) (x : Operand) (ho : o.op = .load ty x)
    (g : Nat) (hx : a.eval x = .pointer (some ⟨g, 0, none⟩)) (t : TypeId) (cs : Array Value) (fr : Nat × Nat) (d : TypeDesc) (hg : w.heap[g]? = some (.cells cs t fr))
    (hu : P.underlying ty = some d) (hd : (match d with | .struct _ | .array _ _ => true | _ => false) = true) (hi : (P.info? ty).map (·.size) = some cs.size)
    (h : wpList P ops Q rest (a.put o.dst (.agg cs)) w) : wpList P ops Q (o :: rest) a w :=
  wpList_step fun _ hK => by rw [if_pos hw]; exact wp_load_row ty x ho g hx t cs fr d hg hu hd hi (hK _ _ h)
theorem quiet_load_sub {P : Program} {o : Oper} {a : Act} {K : Act → Prop} {w : World} {B : Nat} (ty : TypeId) (x : Operand) (ho : o.op = .load ty x)
    (g off : Nat) (hx : a.eval x = .pointer (some ⟨g, off, none⟩)) (t : TypeId) (cs cs' : Array Value) (d : TypeDesc) (hg : w.heap[g]? = some (.cells cs t (0, 0))) (hB : g < B)
    (hsub : (cs.toList.drop off).take cs'.toList.length = cs'.toList)
    (hu : P.underlying ty = some d) (hd : (match d with | .struct _ | .array _ _ => true | _ => false) = true) (hi : (P.info? ty).map (·.size) = some cs'.size)
    (h : K (a.put o.dst (.agg cs'))) : o.quiet P a (fun w' => ∃ n : Ext w B, w' = n.val) K := by
  refine ⟨.agg cs', ?_, h⟩
  rintro w' ⟨n, rfl⟩
  have hg' : n.val.heap[g]? = some (.cells cs t (0, 0)) := (n.below.block g hB).trans hg
  unfold Oper.quietAt execOp
  simp only [ho, hx, Instr.loadAt, Instr.sureAddr, Sem.run_bind, Sem.run_pure, Result.andThen_ok, run_load_sub n.val g off t ty cs cs' (0, 0) d hg' hsub hu hd hi]
  exact ⟨rfl, rfl⟩
/-- Results of which the first lies in a block that is known whole. -/
theorem results_row_tmp {P : Program} {fn : Func} {p u : Tmp} {ty : TypeId} (h : fn.results = #[.cell p ty, .tmp u]) (tmps : Array Value) (w : World) (g : Nat) (t : TypeId) (cs : Array Value) (fr : Nat × Nat) (d : TypeDesc)
    (hp : tmps.getD p undef = .pointer (some ⟨g, 0, none⟩)) (hg : w.heap[g]? = some (.cells cs t fr))
    (hu : P.underlying ty = some d) (hd : (match d with | .struct _ | .array _ _ => true | _ => false) = true) (hi : (P.info? ty).map (·.size) = some cs.size) :
    (results fn tmps).run P w = .ok (.tuple #[.agg cs, tmps.getD u undef]) w := by
  rw [results_cell_tmp h, hp]
  simp [asAddr, run_loadVar_row w g t ty cs fr d hg hu hd hi]
end Go.Proofs.Ythbagegkcpblgaa
