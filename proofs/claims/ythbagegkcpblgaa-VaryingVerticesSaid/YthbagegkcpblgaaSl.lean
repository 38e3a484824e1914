/- Lists of numbers in memory: what a slice value is known to hold, and the append of such a list to a list of our own. No function of the program is walked here. -/
import Derived.Test.YthbagegkcpblgaaBlk
import Derived.Laws.AppendOwn
import Derived.Laws.OwnMore
import Derived.Deep.AppendLies
namespace Go.Proofs.Ythbagegkcpblgaa
open Go.RowKit
/-- The n cells from a on are these numbers. -/
structure Lie (W : World) (a : Addr) (n : Nat) (f : Nat → Int) : Prop where
  lt : 0 < n → a.block < W.heap.size
  at_ : ∀ i, i < n → W.cell? (a.add i) = some (.int .i64 (f i))
theorem Lie.far {W W' : World} {a : Addr} {n : Nat} {f : Nat → Int} {B : Nat} (h : Lie W a n f) (hb : Below B W W') (hB : 0 < n → a.block < B) : Lie W' a n f :=
  ⟨fun h0 => Nat.lt_of_lt_of_le (h.lt h0) hb.size, fun i hi => by rw [hb.cell (by rw [Go.ChangeShapes.block_add]; exact hB (by omega))]; exact h.at_ i hi⟩
theorem Lie.call {W W' : World} {a : Addr} {n : Nat} {f : Nat → Int} (h : Lie W a n f) (hb : Below W.heap.size W W') : Lie W' a n f := h.far hb h.lt
theorem Lie.congr {W : World} {a : Addr} {n : Nat} {f g : Nat → Int} (h : Lie W a n f) (e : ∀ i, i < n → f i = g i) : Lie W a n g := ⟨h.lt, fun i hi => by rw [← e i hi]; exact h.at_ i hi⟩
theorem add_plain (B i : Nat) : (⟨B, 0, none⟩ : Addr).add i = ⟨B, i, none⟩ := by unfold Addr.add; split <;> simp_all
theorem add_off (B o i : Nat) : (⟨B, o, none⟩ : Addr).add i = ⟨B, o + i, none⟩ := by unfold Addr.add; split <;> simp_all
/-- The slice (A, n, c) holds these numbers; a nil slice has none. -/
structure Sl (W : World) (A : Option Addr) (n c : Nat) (f : Nat → Int) : Prop where
  nil : A = none → n = 0 ∧ c = 0
  lies : 0 < n → ∃ a, A = some a ∧ Lie W a n f
section
variable {W W' : World} {A : Option Addr} {n c : Nat} {f g : Nat → Int}
theorem Sl.call (h : Sl W A n c f) (hb : Below W.heap.size W W') : Sl W' A n c f :=
  ⟨h.nil, fun h0 => let ⟨a, e, hl⟩ := h.lies h0; ⟨a, e, hl.call hb⟩⟩
theorem Sl.congr (h : Sl W A n c f) (e : ∀ i, i < n → f i = g i) : Sl W A n c g :=
  ⟨h.nil, fun h0 => let ⟨a, e', hl⟩ := h.lies h0; ⟨a, e', hl.congr e⟩⟩
theorem Sl.none (W : World) (f : Nat → Int) : Sl W none 0 0 f := ⟨fun _ => ⟨rfl, rfl⟩, fun h => absurd h (Nat.lt_irrefl _)⟩
theorem Sl.zero (W : World) (a : Addr) (c : Nat) (f : Nat → Int) : Sl W (some a) 0 c f := ⟨nofun, fun h => absurd h (Nat.lt_irrefl _)⟩
theorem Sl.some {a : Addr} (h : Lie W a n f) : Sl W (some a) n c f := ⟨nofun, fun _ => ⟨a, rfl, h⟩⟩
/-- A cell of the slice, and where it lies. -/
theorem Sl.get (h : Sl W A n c f) {i : Nat} (hi : i < n) : ∃ a, A = .some a ∧ a.block < W.heap.size ∧ W.cell? (a.add i) = .some (.int .i64 (f i)) :=
  let ⟨a, e, hl⟩ := h.lies (by omega); ⟨a, e, hl.lt (by omega), hl.at_ i hi⟩
end
def intsOf (f : Nat → Int) (k : Nat) : List Value := (List.range k).map fun i : Nat => Value.int .i64 (f i)
theorem intsOf_succ (f : Nat → Int) (k : Nat) : intsOf f k ++ [.int .i64 (f k)] = intsOf f (k + 1) := by unfold intsOf; rw [List.range_succ, List.map_append]; rfl
theorem intsOf_len (f : Nat → Int) (k : Nat) : (intsOf f k).length = k := by simp [intsOf]
theorem intsOf_get {f : Nat → Int} {k i : Nat} (h : i < k) : (intsOf f k)[i]? = some (.int .i64 (f i)) := by unfold intsOf; simp [h]
theorem intsOf_one (f : Nat → Int) (k : Nat) : ∀ u ∈ intsOf f k, u.oneCell' = true := fun u hu => by
  unfold intsOf at hu
  obtain ⟨j, -, rfl⟩ := List.mem_map.1 hu
  rfl
theorem intsOf_congr {f g : Nat → Int} {k : Nat} (e : ∀ i, i < k → f i = g i) : intsOf f k = intsOf g k := by
  unfold intsOf
  exact List.map_congr_left fun i hi => by rw [e i (List.mem_range.1 hi)]
/-- One list behind another. -/
def catI (n : Nat) (f g : Nat → Int) : Nat → Int := fun i => if i < n then f i else g (i - n)
theorem intsOf_cat (f g : Nat → Int) (n m : Nat) : intsOf f n ++ intsOf g m = intsOf (catI n f g) (n + m) := by
  unfold intsOf catI
  rw [List.range_add, List.map_append, List.map_map]
  congr 1
  · exact List.map_congr_left fun i hi => by rw [if_pos (List.mem_range.1 hi)]
  · exact List.map_congr_left fun i hi => by simp only [Function.comp]; rw [if_neg (by omega), Nat.add_sub_cancel_left]
theorem Lie.news {W : World} {a : Addr} {n : Nat} {f : Nat → Int} (h : Lie W a n f) : ∀ j u, (intsOf f n)[j]? = some u → W.cell? (a.add j) = some u := fun j u hu => by
  have hj : j < n := by
    have := (List.getElem?_eq_some_iff.1 hu).1
    rwa [intsOf_len] at this
  rw [h.at_ j hj, ← hu, intsOf_get hj]
/-- A list of our own, as a slice that is known. -/
theorem own_sl {W : World} {base n : Nat} {v : Value} {f : Nat → Int} (h : W.ownsRow base 3 1 v n (intsOf f n)) : ∃ A c, v = .slice A n c ∧ Sl W A n c f ∧ ∀ a, A = some a → base ≤ a.block := by
  obtain ⟨-, ⟨rfl, rfl⟩ | ⟨b, c, cur, rfl, hb, hg, hnc, -, hcs, htk⟩⟩ := h
  · exact ⟨none, 0, rfl, Sl.none _ _, nofun⟩
  · refine ⟨some ⟨b, 0, none⟩, c, rfl, Sl.some ⟨fun _ => Blk.lt (t := 3) (cs := cur) hg, fun i hi => ?_⟩, ?_⟩
    · rw [add_plain, Blk.cell (t := 3) (cs := cur) hg]
      have e : (cur.toList.take (n * 1))[i]? = (intsOf f n)[i]? := by rw [htk]
      rw [intsOf_get hi] at e
      simpa [hi] using e
    · rintro a e
      obtain rfl := Option.some.inj e
      exact hb
theorem int_info : ∃ i, Try.prog.info? 3 = some i ∧ i.zero = some (.int .i64 0) ∧ i.size = 1 ∧ i.bytes = 8 := by
  obtain ⟨i, hi⟩ : ∃ i, Try.prog.info? 3 = some i := Option.isSome_iff_exists.1 (by kernel_rfl)
  refine ⟨i, hi, ?_, ?_, ?_⟩
  · have : (Try.prog.info? 3).bind (·.zero) = some (.int .i64 0) := by kernel_rfl
    simpa [hi] using this
  · have : (Try.prog.info? 3).map (·.size) = some 1 := by kernel_rfl
    simpa [hi] using this
  · have : (Try.prog.info? 3).map (·.bytes) = some 8 := by kernel_rfl
    simpa [hi] using this
/-- 'append(v, xs...)', v a list of our own, xs a list that is known: what the call gives. -/
theorem run_append_sl (w : World) (base : Nat) (ty : TypeId) (v : Value) (n : Nat) (f : Nat → Int) (hown : w.ownsRow base 3 1 v n (intsOf f n)) (A : Option Addr) (m c : Nat) (g : Nat → Int) (hx : Sl w A m c g)
    (hb : n + m ≤ 17592186044416) (hbase : base ≤ w.heap.size) :
    ∃ v' w', (Builtin.append_ #[22, 22] ty #[v, .slice A m c]).run Try.prog w = .ok v' w' ∧ w'.ownsRow base 3 1 v' (n + m) (intsOf (catI n f g) (n + m)) ∧ w.grownBy w' v.ownBlock ∧ (v' = .slice none 0 0 ↔ v = .slice none 0 0 ∧ m = 0) := by
  obtain ⟨i, hi, hz, hs, hb8⟩ := int_info
  rcases A with _ | a
  · obtain ⟨rfl, rfl⟩ := hx.nil rfl
    refine ⟨v, w, run_append_owned_none (P := Try.prog) w base 22 ty 3 i 1 Try.underlying22 hi v n _ hown, ?_, ⟨rfl, rfl, rfl, Nat.le_refl _, fun _ _ _ => rfl⟩, by simp⟩
    rw [Nat.add_zero, intsOf_congr (g := f) (fun i hi => by unfold catI; rw [if_pos hi])]
    exact hown
  · have hnews : ∀ j u, (intsOf g m)[j]? = some u → w.cell? (a.add j) = some u := fun j u hu => by
      have hj : j < m := by
        have := (List.getElem?_eq_some_iff.1 hu).1
        rwa [intsOf_len] at this
      obtain ⟨a', e, hl⟩ := hx.lies (by omega)
      obtain rfl := Option.some.inj e
      exact hl.news j u hu
    have := run_append_own (P := Try.prog) w base 22 ty 3 i (.int .i64 0) 1 8 Try.underlying22 hi hz hs hb8 rfl (by omega) v n (intsOf f n) hown a m c (intsOf g m) (by rw [intsOf_len, Nat.mul_one]) hnews (intsOf_one g m) (by simp only [maxLen]; omega) (by omega) hbase
    rw [intsOf_cat] at this
    exact this
theorem wp_append_sl {w : World} {o : Oper} {a : Act} {K : Act → World → Prop} {Q : Exit → Act → World → Prop} (s x : Operand)
    (ho : o.op = .call { callee := .builtin .append, args := #[s, x], argTypes := #[22, 22] })
    (base : Nat) (v : Value) (n : Nat) (f : Nat → Int) (hs : a.eval s = v) (hown : w.ownsRow base 3 1 v n (intsOf f n)) (A : Option Addr) (m c : Nat) (g : Nat → Int) (hx : a.eval x = .slice A m c) (hl : Sl w A m c g)
    (hb : n + m ≤ 17592186044416) (hbase : base ≤ w.heap.size)
    (h : ∀ v' w', w'.ownsRow base 3 1 v' (n + m) (intsOf (catI n f g) (n + m)) → w.grownBy w' v.ownBlock → (v' = .slice none 0 0 ↔ v = .slice none 0 0 ∧ m = 0) → K (a.put o.dst v') w') : o.wp Try.prog a w K Q := by
  obtain ⟨v', w', hr, h2, h3, h4⟩ := run_append_sl w base o.type v n f hown A m c g hl hb hbase
  unfold Oper.wp execOp
  simp only [ho, resolve, invoke, builtin, Sem.run_bind, Sem.run_pure, Result.andThen_ok, List.map_toArray, List.map_cons, List.map_nil, hs, hx, hr]
  exact h v' w' h2 h3 h4
theorem wpList_append_sl {w : World} {ops : Array Oper} {rest : List Oper} {o : Oper} {a : Act} {Q : Exit → Act → World → Prop} (hgd : o.guard = none) (s x : Operand)
    (ho : o.op = .call { callee := .builtin .append, args := #[s, x], argTypes := #[22, 22] })
    (base : Nat) (v : Value) (n : Nat) (f : Nat → Int) (hs : a.eval s = v) (hown : w.ownsRow base 3 1 v n (intsOf f n)) (A : Option Addr) (m c : Nat) (g : Nat → Int) (hx : a.eval x = .slice A m c) (hl : Sl w A m c g)
    (hb : n + m ≤ 17592186044416) (hbase : base ≤ w.heap.size)
    (h : ∀ v' w', w'.ownsRow base 3 1 v' (n + m) (intsOf (catI n f g) (n + m)) → w.grownBy w' v.ownBlock → (v' = .slice none 0 0 ↔ v = .slice none 0 0 ∧ m = 0) → wpList Try.prog ops Q rest (a.put o.dst v') w') : wpList Try.prog ops Q (o :: rest) a w :=
  wpList_plain hgd fun _ hK => wp_append_sl s x ho base v n f hs hown A m c g hx hl hb hbase fun v' w' h2 h3 h4 => hK _ _ (h v' w' h2 h3 h4)
theorem own_nil (w : World) (f : Nat → Int) : w.ownsRow w.heap.size 3 1 (.slice none 0 0) 0 (intsOf f 0) := World.ownsRow_nil w w.heap.size 3 1
/-- An empty list of our own that is not nil. -/
theorem own_empty (w : World) (f : Nat → Int) : (w.alloc (.cells #[] 3)).ownsRow w.heap.size 3 1 (.slice (some ⟨w.heap.size, 0, none⟩) 0 0) 0 (intsOf f 0) :=
  World.ownsRow_made w #[] 0 (Nat.le_refl _) (Nat.zero_le _) rfl
theorem below_own {w w' : World} {base n : Nat} {v : Value} {t : TypeId} {k : Nat} {xs : List Value} (hown : w.ownsRow base t k v n xs) (hg : w.grownBy w' v.ownBlock) (hb : base ≤ w.heap.size) : Below base w w' :=
  (Below.refl _ _).grown hg hb fun k hk => (hown.lt k hk).1
theorem catI_zero (f g : Nat → Int) : catI 0 f g = g := by
  funext i
  unfold catI
  rw [if_neg (Nat.not_lt_zero i), Nat.sub_zero]
/-- A copy of a list: 'append([]int(nil), xs...)', 'append([]int{}, xs...)'. -/
theorem wpList_copy_sl {w : World} {ops : Array Oper} {rest : List Oper} {o : Oper} {a : Act} {Q : Exit → Act → World → Prop} (hgd : o.guard = none) (s x : Operand)
    (ho : o.op = .call { callee := .builtin .append, args := #[s, x], argTypes := #[22, 22] })
    (base : Nat) (v : Value) (hs : a.eval s = v) (hown : w.ownsRow base 3 1 v 0 (intsOf (fun _ => 0) 0)) (A : Option Addr) (m c : Nat) (g : Nat → Int) (hx : a.eval x = .slice A m c) (hl : Sl w A m c g)
    (hb : m ≤ 17592186044416) (hbase : base ≤ w.heap.size)
    (h : ∀ A' c' w', Sl w' A' m c' g → (∀ a, A' = some a → base ≤ a.block) → Below base w w' → wpList Try.prog ops Q rest (a.put o.dst (.slice A' m c')) w') : wpList Try.prog ops Q (o :: rest) a w :=
  wpList_append_sl hgd s x ho base v 0 (fun _ => 0) hs hown A m c g hx hl (by omega) hbase fun v' w' h2 h3 h4 => by
    rw [Nat.zero_add, catI_zero] at h2
    obtain ⟨A', c', rfl, h5, h6⟩ := own_sl h2
    exact h A' c' w' h5 h6 (below_own hown h3 hbase)
theorem Sl.set {W : World} {A : Option Addr} {n c : Nat} {f : Nat → Int} (h : Sl W A n c f) {p : Addr} (hp : ∀ a, A = Option.some a → a.block ≠ p.block) (u : Value) : Sl (W.setCell p u) A n c f :=
  ⟨h.nil, fun h0 => by
    obtain ⟨a, e, hl⟩ := h.lies h0
    refine ⟨a, e, fun h1 => by simpa using hl.lt h1, fun i hi => ?_⟩
    rw [← hl.at_ i hi]
    refine World.cell?_of_block ?_
    rw [Go.ChangeShapes.block_add]
    exact Below.heap_setCell W p u a.block (hp a e)⟩
theorem Sl.setRow {W : World} {A : Option Addr} {n c : Nat} {f : Nat → Int} (h : Sl W A n c f) {b : Nat} (hp : ∀ a, A = Option.some a → a.block ≠ b) (cs : Array Value) : Sl (W.setRow b cs) A n c f :=
  ⟨h.nil, fun h0 => by
    obtain ⟨a, e, hl⟩ := h.lies h0
    refine ⟨a, e, fun h1 => by simpa [World.setRow] using hl.lt h1, fun i hi => ?_⟩
    rw [← hl.at_ i hi]
    refine World.cell?_of_block ?_
    rw [Go.ChangeShapes.block_add]
    have hne : b ≠ a.block := (hp a e).symm
    simp [World.setRow, Array.getElem?_modify, hne]⟩
theorem Sl.alloc {W : World} {A : Option Addr} {n c : Nat} {f : Nat → Int} (h : Sl W A n c f) (o : Obj) : Sl (W.alloc o) A n c f := h.call ((Below.refl _ _).alloc (Nat.le_refl _) o)
theorem Sl.drew {W : World} {A : Option Addr} {n c : Nat} {f : Nat → Int} (h : Sl W A n c f) : Sl W.drew A n c f := h.call (Below.refl _ _).drew
theorem Sl.drewN {W : World} {A : Option Addr} {n c : Nat} {f : Nat → Int} (h : Sl W A n c f) (k : Nat) : Sl (W.drewN k) A n c f := h.call (below_drewN (Below.refl _ _))
end Go.Proofs.Ythbagegkcpblgaa
