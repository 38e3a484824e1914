/- Bins in memory: lists of triangles that came in, lists of numbers of our own, lists of such lists. No function of the program is walked here, but by its contract. -/
import Derived.Test.YtimgjlogbkgiaaaTouch
import Derived.Test.YtimgjlogbkgiaaaTouchR
import Derived.Test.YtimgjlogbkgiaaaSl
import Derived.Laws.OwnMore
import Derived.Test.YtimgjlogbkgiaaaFresh
namespace Go.Proofs.Ytimgjlogbkgiaaa
open Go.RowKit
/-! ### Triangles -/
/-- These cells are a triangle's. -/
def IsTri (c : Array Value) : Prop := ∃ (x0 y0 z0 u0 x1 y1 z1 u1 x2 y2 z2 u2 : Int) (A0 A1 A2 : Option Addr) (n0 c0 n1 c1 n2 c2 : Nat) (pr : Int) (fr : Bool), c = #[.int .i64 x0, .int .i64 y0, .int .i64 z0, .int .i64 u0, .slice A0 n0 c0, .int .i64 x1, .int .i64 y1, .int .i64 z1, .int .i64 u1, .slice A1 n1 c1, .int .i64 x2, .int .i64 y2, .int .i64 z2, .int .i64 u2, .slice A2 n2 c2, .int .i64 pr, .bool fr]
def iv (c : Array Value) (k : Nat) : Int := match c[k]? with | some (.int _ n) => n | _ => 0
def tcT (c : Array Value) (W H t : Int) : Bool := tcB (iv c 0) (iv c 1) (iv c 5) (iv c 6) (iv c 10) (iv c 11) W H t
theorem touchesT (c : Array Value) (hc : IsTri c) (W H t : Int) (w : World) (v : Bool) (h : tcT c W H t = v) :
    Calls Try.prog 18 #[.agg c, .int .i64 W, .int .i64 H, .int .i64 t] w fun e w' => e = .returned (.bool v) ∧ Below w.heap.size w w' := by
  obtain ⟨x0, y0, z0, u0, x1, y1, z1, u1, x2, y2, z2, u2, A0, A1, A2, n0, c0, n1, c1, n2, c2, pr, fr, rfl⟩ := hc
  exact touches_at x0 y0 z0 u0 x1 y1 z1 u1 x2 y2 z2 u2 A0 A1 A2 n0 c0 n1 c1 n2 c2 pr fr W H t w v h
theorem rTouchesT (c : Array Value) (hc : IsTri c) (W H t : Int) (w : World) (v : Bool) (h : tcT c W H t = v) :
    Calls Try.prog 19 #[.agg c, .int .i64 W, .int .i64 H, .int .i64 t] w fun e w' => e = .returned (.bool v) ∧ Below w.heap.size w w' := by
  obtain ⟨x0, y0, z0, u0, x1, y1, z1, u1, x2, y2, z2, u2, A0, A1, A2, n0, c0, n1, c1, n2, c2, pr, fr, rfl⟩ := hc
  exact rTouches_at x0 y0 z0 u0 x1 y1 z1 u1 x2 y2 z2 u2 A0 A1 A2 n0 c0 n1 c1 n2 c2 pr fr W H t w v h
theorem isTri_size {c : Array Value} (h : IsTri c) : c.size = 17 := by
  obtain ⟨x0, y0, z0, u0, x1, y1, z1, u1, x2, y2, z2, u2, A0, A1, A2, n0, c0, n1, c1, n2, c2, pr, fr, rfl⟩ := h
  rfl
theorem isTri_one {c : Array Value} (h : IsTri c) : c.all (·.oneCell') = true := by
  obtain ⟨x0, y0, z0, u0, x1, y1, z1, u1, x2, y2, z2, u2, A0, A1, A2, n0, c0, n1, c1, n2, c2, pr, fr, rfl⟩ := h
  kernel_rfl
/-- A list of triangles that came in. -/
structure TrisW (W : World) (A : Option Addr) (n c : Nat) (T : Nat → Array Value) : Prop where
  nil : A = none → n = 0 ∧ c = 0
  tri : ∀ i, i < n → IsTri (T i)
  lies : 0 < n → ∃ b o, A = some ⟨b, o, none⟩ ∧ b < W.heap.size ∧ ∀ i, i < n → ∀ j v, (T i)[j]? = some v → W.cell? ⟨b, o + i * 17 + j, none⟩ = some v
theorem TrisW.call {W W' : World} {A : Option Addr} {n c : Nat} {T : Nat → Array Value} (h : TrisW W A n c T) (hb : Below W.heap.size W W') : TrisW W' A n c T :=
  ⟨h.nil, h.tri, fun h0 => let ⟨b, o, e, hl, hc⟩ := h.lies h0; ⟨b, o, e, Nat.lt_of_lt_of_le hl hb.size, fun i hi j v hv => (hb.cell (p := ⟨b, o + i * 17 + j, none⟩) hl).trans (hc i hi j v hv)⟩⟩
/-- A struct at some place, known cell by cell, loaded with no unrolling. -/
theorem run_load_at {P : Program} (w : World) (g off : Nat) (ty : TypeId) (cs' : Array Value) (d : TypeDesc) (hc : ∀ j v, cs'[j]? = some v → w.cell? ⟨g, off + j, none⟩ = some v)
    (hu : P.underlying ty = some d) (hd : (match d with | .struct _ | .array _ _ => true | _ => false) = true) (hi : (P.info? ty).map (·.size) = some cs'.size) :
    (loadVar ty ⟨g, off, none⟩).run P w = .ok (.agg cs') w := by
  have hl : (loadCells ⟨g, off, none⟩ cs'.toList.length).run P w = .ok cs'.toList.toArray w :=
    run_loadCells_list (P := P) w ⟨g, off, none⟩ cs'.toList (fun j v hv => by
      have hadd : (⟨g, off, none⟩ : Addr).add j = ⟨g, off + j, none⟩ := by unfold Addr.add; split <;> simp_all
      rw [hadd]
      exact hc j v (by rw [← Array.getElem?_toList]; exact hv))
  cases hq : P.info? ty with
  | none => simp [hq] at hi
  | some i =>
    have hs : i.size = cs'.size := by simpa [hq] using hi
    have hagg : (isAgg ty).run P w = .ok true w := by
      unfold isAgg
      rw [Sem.run_bind, run_underlying hu w]
      cases d <;> simp_all
    simp only [Array.length_toList, Array.toArray_toList] at hl
    simp [loadVar, Sem.run_bind, hagg, sizeOf, typeInfo, hq, hs, hl]
theorem wpList_load_at {P : Program} {ops : Array Oper} {rest : List Oper} {o : Oper} {a : Act} {w : World} {Q : Exit → Act → World → Prop} (hgd : o.guard = none) (ty : TypeId) (x : Operand) (ho : o.op = .load ty x)
    (g off : Nat) (hx : a.eval x = .pointer (some ⟨g, off, none⟩)) (cs' : Array Value) (d : TypeDesc) (hc : ∀ j v, cs'[j]? = some v → w.cell? ⟨g, off + j, none⟩ = some v)
    (hu : P.underlying ty = some d) (hd : (match d with | .struct _ | .array _ _ => true | _ => false) = true) (hi : (P.info? ty).map (·.size) = some cs'.size)
    (h : wpList P ops Q rest (a.put o.dst (.agg cs')) w) : wpList P ops Q (o :: rest) a w :=
  wpList_plain hgd fun _ hK => by
    unfold Oper.wp execOp
    simp only [ho, hx, Instr.loadAt, Instr.sureAddr, Sem.run_bind, Sem.run_pure, Result.andThen_ok, run_load_at w g off ty cs' d hc hu hd hi]
    exact hK _ _ h
theorem quiet_load_at {P : Program} {o : Oper} {a : Act} {K : Act → Prop} {w : World} {B : Nat} (ty : TypeId) (x : Operand) (ho : o.op = .load ty x)
    (g off : Nat) (hx : a.eval x = .pointer (some ⟨g, off, none⟩)) (cs' : Array Value) (d : TypeDesc) (hc : ∀ j v, cs'[j]? = some v → w.cell? ⟨g, off + j, none⟩ = some v) (hB : g < B)
    (hu : P.underlying ty = some d) (hd : (match d with | .struct _ | .array _ _ => true | _ => false) = true) (hi : (P.info? ty).map (·.size) = some cs'.size)
    (h : K (a.put o.dst (.agg cs'))) : o.quiet P a (fun w' => ∃ n : Ext w B, w' = n.val) K := by
  refine ⟨.agg cs', ?_, h⟩
  rintro w' ⟨n, rfl⟩
  have hc' : ∀ j v, cs'[j]? = some v → n.val.cell? ⟨g, off + j, none⟩ = some v := fun j v hv => (n.below.cell (p := ⟨g, off + j, none⟩) hB).trans (hc j v hv)
  unfold Oper.quietAt execOp
  simp only [ho, hx, Instr.loadAt, Instr.sureAddr, Sem.run_bind, Sem.run_pure, Result.andThen_ok, run_load_at n.val g off ty cs' d hc' hu hd hi]
  exact ⟨rfl, rfl⟩
/-! ### Which triangles -/
def filt (p : Nat → Bool) : Nat → List Nat
  | 0 => []
  | k + 1 => filt p k ++ (if p k = true then [k] else [])
theorem filt_len (p : Nat → Bool) : ∀ k, (filt p k).length ≤ k
  | 0 => by simp [filt]
  | k + 1 => by have := filt_len p k; unfold filt; split <;> simp <;> omega
theorem filt_yes {p : Nat → Bool} {k : Nat} (h : p k = true) : filt p (k + 1) = filt p k ++ [k] := by show filt p k ++ _ = _; rw [if_pos h]
theorem filt_no {p : Nat → Bool} {k : Nat} (h : p k = false) : filt p (k + 1) = filt p k := by show filt p k ++ _ = _; rw [if_neg (by rw [h]; simp), List.append_nil]
theorem filt_mem {p : Nat → Bool} : ∀ {k i : Nat}, i ∈ filt p k ↔ i < k ∧ p i = true
  | 0, i => by simp [filt]
  | k + 1, i => by
    unfold filt
    rw [List.mem_append, filt_mem]
    by_cases h : p k = true
    · rw [if_pos h, List.mem_singleton]
      constructor
      · rintro (⟨a, b⟩ | rfl)
        · exact ⟨by omega, b⟩
        · exact ⟨by omega, h⟩
      · rintro ⟨a, b⟩
        by_cases e : i = k
        · exact .inr e
        · exact .inl ⟨by omega, b⟩
    · rw [if_neg h]
      simp only [List.not_mem_nil, or_false]
      constructor
      · rintro ⟨a, b⟩; exact ⟨by omega, b⟩
      · rintro ⟨a, b⟩
        refine ⟨?_, b⟩
        by_cases e : i = k
        · subst e; exact absurd b h
        · omega
/-! ### Lists of numbers of our own -/
def lf (l : List Nat) : Nat → Int := fun i => ((l.getD i 0 : Nat) : Int)
def valsL (l : List Nat) : List Value := l.map fun i : Nat => Value.int .i64 (i : Int)
theorem valsL_add (l : List Nat) (k : Nat) : valsL l ++ [.int .i64 (k : Int)] = valsL (l ++ [k]) := by unfold valsL; simp
theorem valsL_ints (l : List Nat) : valsL l = intsOf (lf l) l.length := by
  unfold valsL intsOf lf
  apply List.ext_getElem?
  intro i
  rw [List.getElem?_map, List.getElem?_map]
  by_cases h : i < l.length
  · simp [h]
  · simp [h]
theorem own_list {W : World} {base : Nat} {v : Value} {l : List Nat} (h : W.ownsRow base 3 1 v l.length (valsL l)) : ∃ A c, v = .slice A l.length c ∧ Sl W A l.length c (lf l) := by
  rw [valsL_ints] at h
  obtain ⟨A, c, e, hs, -⟩ := own_sl h
  exact ⟨A, c, e, hs⟩
theorem own_callB {W W' : World} {base n k : Nat} {t : TypeId} {v : Value} {xs : List Value} (h : W.ownsRow base t k v n xs) (hb : Below W.heap.size W W') : W'.ownsRow base t k v n xs := by
  obtain ⟨h1, h2 | ⟨g, c, cur, e, h3, hg, rest⟩⟩ := h
  · exact ⟨h1, .inl h2⟩
  · exact ⟨h1, .inr ⟨g, c, cur, e, h3, (hb.block g (Blk.lt (t := t) (cs := cur) hg)).trans hg, rest⟩⟩
theorem own_weak {W : World} {base base' n k : Nat} {t : TypeId} {v : Value} {xs : List Value} (h : W.ownsRow base t k v n xs) (hb : base' ≤ base) : W.ownsRow base' t k v n xs := by
  obtain ⟨h1, h2 | ⟨g, c, cur, e, h3, rest⟩⟩ := h
  · exact ⟨h1, .inl h2⟩
  · exact ⟨h1, .inr ⟨g, c, cur, e, by omega, rest⟩⟩
/-- 'append(v, k)', v a list of our own, the number k in a block of its own. -/
theorem wpList_append_int {w : World} {ops : Array Oper} {rest : List Oper} {o : Oper} {a : Act} {Q : Exit → Act → World → Prop} (hgd : o.guard = none) (s x : Operand)
    (ho : o.op = .call { callee := .builtin .append, args := #[s, x], argTypes := #[32, 32] })
    (base : Nat) (L : List Nat) (v : Value) (hs : a.eval s = v) (hown : w.ownsRow base 3 1 v L.length (valsL L)) (B : Nat) (p : Nat) (hx : a.eval x = .slice (some ⟨B, 0, none⟩) 1 1)
    (hB : Blk w B 3 #[.int .i64 (p : Int)]) (hlen : L.length ≤ 4096) (hbase : base ≤ w.heap.size)
    (h : ∀ v' w', w'.ownsRow base 3 1 v' (L ++ [p]).length (valsL (L ++ [p])) → Below base w w' → wpList Try.prog ops Q rest (a.put o.dst v') w') : wpList Try.prog ops Q (o :: rest) a w := by
  obtain ⟨i, hi, hz, hsz, hb8⟩ := int_info
  refine wpList_append_own w hgd s x 32 ho base 3 i (.int .i64 0) 1 8 Try.underlying32 hi hz hsz hb8 rfl (by omega) v L.length (valsL L) hs hown ⟨B, 0, none⟩ 1 1 [.int .i64 (p : Int)] hx rfl (fun j u hu => ?_) (fun u hu => ?_) (by simp only [maxLen]; omega) (by omega) hbase (fun v' w' h1 h2 _ => ?_)
  · rw [add_plain, hB.cell]
    simpa using hu
  · simp only [List.mem_cons, List.not_mem_nil, or_false] at hu
    subst hu
    rfl
  · refine h v' w' ?_ (below_own hown h2 hbase)
    rw [← valsL_add, List.length_append]
    exact h1
/-! ### Lists of lists -/
/-- v is a list of our own of k lists of our own, the i-th one F i. -/
def BinsP (W : World) (base : Nat) (v : Value) (k : Nat) (F : Nat → List Nat) : Prop :=
  ∃ vs, W.ownsRow base 32 1 v k vs ∧ ∀ t, t < k → ∃ u, vs[t]? = some u ∧ W.ownsRow base 3 1 u (F t).length (valsL (F t))
theorem BinsP.call {W W' : World} {base k : Nat} {v : Value} {F : Nat → List Nat} (h : BinsP W base v k F) (hb : Below W.heap.size W W') : BinsP W' base v k F :=
  let ⟨vs, h1, h2⟩ := h; ⟨vs, own_callB h1 hb, fun t ht => let ⟨u, h3, h4⟩ := h2 t ht; ⟨u, h3, own_callB h4 hb⟩⟩
theorem BinsP.weak {W : World} {base base' k : Nat} {v : Value} {F : Nat → List Nat} (h : BinsP W base v k F) (hb : base' ≤ base) : BinsP W base' v k F :=
  let ⟨vs, h1, h2⟩ := h; ⟨vs, own_weak h1 hb, fun t ht => let ⟨u, h3, h4⟩ := h2 t ht; ⟨u, h3, own_weak h4 hb⟩⟩
theorem BinsP.form {W : World} {base k : Nat} {v : Value} {F : Nat → List Nat} (h : BinsP W base v k F) : ∃ A c, v = .slice A k c := by
  obtain ⟨vs, ⟨-, ⟨rfl, rfl⟩ | ⟨g, c, cur, rfl, -⟩⟩, -⟩ := h
  · exact ⟨none, 0, rfl⟩
  · exact ⟨_, _, rfl⟩
theorem BinsP.get {W : World} {base k c : Nat} {A : Option Addr} {F : Nat → List Nat} (h : BinsP W base (.slice A k c) k F) {t : Nat} (ht : t < k) :
    ∃ b cur B d, A = some ⟨b, 0, none⟩ ∧ Blk W b 32 cur ∧ cur[t]? = some (.slice B (F t).length d) ∧ Sl W B (F t).length d (lf (F t)) := by
  obtain ⟨vs, ⟨-, ⟨he, h0⟩ | ⟨g, cc, cur, he, -, hg, hnc, -, hcs, htk⟩⟩, h2⟩ := h
  · omega
  · simp only [Value.slice.injEq] at he
    obtain ⟨rfl, -, rfl⟩ := he
    obtain ⟨u, hu, ho⟩ := h2 t ht
    obtain ⟨B, d, rfl, hs⟩ := own_list ho
    refine ⟨g, cur, B, d, rfl, hg, ?_, hs⟩
    have e : (cur.toList.take (k * 1))[t]? = vs[t]? := by rw [htk]
    rw [hu] at e
    rw [← Array.getElem?_toList]
    simpa [ht] using e
theorem slice_info : ∃ i, Try.prog.info? 32 = some i ∧ i.zero = some (.slice none 0 0) ∧ i.size = 1 ∧ i.bytes = 24 := by
  obtain ⟨i, hi⟩ : ∃ i, Try.prog.info? 32 = some i := Option.isSome_iff_exists.1 (by kernel_rfl)
  refine ⟨i, hi, ?_, ?_, ?_⟩
  · have : (Try.prog.info? 32).bind (·.zero) = some (.slice none 0 0) := by kernel_rfl
    simpa [hi] using this
  · have : (Try.prog.info? 32).map (·.size) = some 1 := by kernel_rfl
    simpa [hi] using this
  · have : (Try.prog.info? 32).map (·.bytes) = some 24 := by kernel_rfl
    simpa [hi] using this
/-- Lists of two types lie in different blocks. -/
theorem own_apart {W : World} {b1 b2 n1 n2 k1 k2 : Nat} {t1 t2 : TypeId} {v1 v2 : Value} {x1 x2 : List Value} (h1 : W.ownsRow b1 t1 k1 v1 n1 x1) (h2 : W.ownsRow b2 t2 k2 v2 n2 x2) (ht : t1 ≠ t2) : v1.ownBlock = none ∨ v1.ownBlock ≠ v2.ownBlock := by
  obtain ⟨-, ⟨rfl, -⟩ | ⟨g, c, cur, rfl, -, hg, -⟩⟩ := h1
  · exact .inl rfl
  · obtain ⟨-, ⟨rfl, -⟩ | ⟨g', c', cur', rfl, -, hg', -⟩⟩ := h2
    · exact .inr (by simp [Value.ownBlock])
    · refine .inr fun e => ?_
      simp only [Value.ownBlock, Option.some.injEq] at e
      subst e
      rw [hg] at hg'
      simp only [Option.some.injEq, Obj.cells.injEq] at hg'
      exact ht hg'.2.1
/-- 'append(v, u)', v a list of lists of our own, u a list of our own, in a block of its own. -/
theorem wpList_append_bin {w : World} {ops : Array Oper} {rest : List Oper} {o : Oper} {a : Act} {Q : Exit → Act → World → Prop} (hgd : o.guard = none) (s x : Operand)
    (ho : o.op = .call { callee := .builtin .append, args := #[s, x], argTypes := #[43, 43] })
    (base k : Nat) (F : Nat → List Nat) (v : Value) (hs : a.eval s = v) (hown : BinsP w base v k F) (B : Nat) (u : Value) (hx : a.eval x = .slice (some ⟨B, 0, none⟩) 1 1)
    (hB : Blk w B 32 #[u]) (hu : w.ownsRow base 3 1 u (F k).length (valsL (F k))) (hlen : k ≤ 4096) (hbase : base ≤ w.heap.size)
    (h : ∀ v' w', BinsP w' base v' (k + 1) F → Below base w w' → wpList Try.prog ops Q rest (a.put o.dst v') w') : wpList Try.prog ops Q (o :: rest) a w := by
  obtain ⟨i, hi, hz, hsz, hb8⟩ := slice_info
  obtain ⟨vs, h1, h2⟩ := hown
  have hlv : vs.length = k := by have := h1.1; omega
  refine wpList_append_own w hgd s x 43 ho base 32 i (.slice none 0 0) 1 24 Try.underlying43 hi hz hsz hb8 rfl (by omega) v k vs hs h1 ⟨B, 0, none⟩ 1 1 [u] hx rfl (fun j q hq => ?_) (fun q hq => ?_) (by simp only [maxLen]; omega) (by omega) hbase (fun v' w' h3 h4 _ => ?_)
  · rw [add_plain, hB.cell]
    simpa using hq
  · simp only [List.mem_cons, List.not_mem_nil, or_false] at hq
    subst hq
    obtain ⟨A, c, rfl, -⟩ := own_list hu
    rfl
  · refine h v' w' ⟨_, h3, fun t ht => ?_⟩ (below_own h1 h4 hbase)
    by_cases e : t = k
    · subst e
      exact ⟨u, by rw [List.getElem?_append_right (by omega), hlv, Nat.sub_self]; rfl, hu.kept h4 (own_apart hu h1 (by decide))⟩
    · obtain ⟨q, hq1, hq2⟩ := h2 t (by omega)
      exact ⟨q, by rw [List.getElem?_append_left (by omega)]; exact hq1, hq2.kept h4 (own_apart hq2 h1 (by decide))⟩
end Go.Proofs.Ytimgjlogbkgiaaa
