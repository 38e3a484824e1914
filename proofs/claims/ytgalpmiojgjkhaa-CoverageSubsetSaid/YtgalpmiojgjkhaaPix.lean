/- Lists of pixels: the list that Pixels gives, row by row (plain), and lists of pixels in memory. No function of the program is walked here. -/
import Derived.Test.YtgalpmiojgjkhaaMaskR
import Derived.Test.YtgalpmiojgjkhaaLim
import Derived.Test.YtgalpmiojgjkhaaEq3
import Derived.Test.YtgalpmiojgjkhaaSl
import Derived.Deep.AppendLies
import Derived.Laws.AppendOwn
namespace Go.Proofs.Ytgalpmiojgjkhaa
open Go.RowKit
abbrev Px := Int × Int × Int
/-- Is pixel (x, y) in the list? s: the rectangle; m: the masks. -/
def selB (s : Nat → Nat → Bool) (m : Nat → Nat → Int) (x y : Nat) : Bool := s x y && (m x y != 0)
def pixOf (s : Nat → Nat → Bool) (m : Nat → Nat → Int) (x y : Nat) : List Px := if selB s m x y = true then [((x : Int), (y : Int), m x y)] else []
def rowP (s : Nat → Nat → Bool) (m : Nat → Nat → Int) (y : Nat) : Nat → List Px
  | 0 => []
  | x + 1 => rowP s m y x ++ pixOf s m x y
def allP (s : Nat → Nat → Bool) (m : Nat → Nat → Int) : Nat → List Px
  | 0 => []
  | y + 1 => allP s m y ++ rowP s m y 64
/-- What comes before pixel (x, y). -/
def preP' (s : Nat → Nat → Bool) (m : Nat → Nat → Int) (y x : Nat) : List Px := allP s m y ++ rowP s m y x
section
variable {s : Nat → Nat → Bool} {m : Nat → Nat → Int}
theorem allP_succ (y : Nat) : allP s m (y + 1) = preP' s m y 64 := by rw [preP', allP]
theorem pix_no {x y : Nat} (h : selB s m x y = false) : pixOf s m x y = [] := by unfold pixOf; rw [if_neg (by rw [h]; simp)]
theorem pix_yes {x y : Nat} (h : selB s m x y = true) : pixOf s m x y = [((x : Int), (y : Int), m x y)] := by unfold pixOf; rw [if_pos h]
theorem rowP_len (y : Nat) : ∀ x, (rowP s m y x).length ≤ x
  | 0 => by simp [rowP]
  | x + 1 => by
    have := rowP_len y x
    unfold rowP pixOf
    split <;> simp <;> omega
theorem allP_len : ∀ y, (allP s m y).length ≤ 64 * y
  | 0 => by simp [allP]
  | y + 1 => by
    have h1 := allP_len y
    have h2 := rowP_len (s := s) (m := m) y 64
    unfold allP
    simp only [List.length_append]
    omega
theorem pre_len {y x : Nat} (hy : y < 64) (hx : x ≤ 64) : (preP' s m y x).length ≤ 4096 := by
  have h1 := allP_len (s := s) (m := m) y
  have h2 := rowP_len (s := s) (m := m) y x
  unfold preP'
  simp only [List.length_append]
  omega
theorem all_len : (allP s m 64).length ≤ 4096 := allP_len 64
theorem rowP_stay {y a : Nat} : ∀ {b : Nat}, a ≤ b → (∀ x, a ≤ x → x < b → selB s m x y = false) → rowP s m y b = rowP s m y a
  | 0, h, _ => by rw [Nat.le_zero.1 h]
  | b + 1, h, hn => by
    rcases Nat.lt_or_ge a (b + 1) with hlt | hge
    · show rowP s m y b ++ pixOf s m b y = _
      rw [pix_no (hn b (by omega) (by omega)), List.append_nil]
      exact rowP_stay (by omega) fun x h1 h2 => hn x h1 (by omega)
    · rw [show a = b + 1 by omega]
theorem rowP_none {y b : Nat} (hn : ∀ x, x < b → selB s m x y = false) : rowP s m y b = [] := by
  rw [rowP_stay (Nat.zero_le b) fun x _ h => hn x h]
  rfl
theorem allP_stay {a : Nat} : ∀ {b : Nat}, a ≤ b → (∀ y, a ≤ y → y < b → ∀ x, x < 64 → selB s m x y = false) → allP s m b = allP s m a
  | 0, h, _ => by rw [Nat.le_zero.1 h]
  | b + 1, h, hn => by
    rcases Nat.lt_or_ge a (b + 1) with hlt | hge
    · show allP s m b ++ rowP s m b 64 = _
      rw [rowP_none (hn b (by omega) (by omega)), List.append_nil]
      exact allP_stay (by omega) fun y h1 h2 => hn y h1 (by omega)
    · rw [show a = b + 1 by omega]
theorem allP_none {b : Nat} (hn : ∀ y, y < b → ∀ x, x < 64 → selB s m x y = false) : allP s m b = [] := by
  rw [allP_stay (Nat.zero_le b) fun y _ h => hn y h]
  rfl
theorem rowP_pre {y a : Nat} : ∀ {b : Nat}, a ≤ b → ∃ t, rowP s m y b = rowP s m y a ++ t
  | 0, h => ⟨[], by rw [Nat.le_zero.1 h, List.append_nil]⟩
  | b + 1, h => by
    rcases Nat.lt_or_ge a (b + 1) with hlt | hge
    · obtain ⟨t, ht⟩ := rowP_pre (b := b) (a := a) (y := y) (by omega)
      exact ⟨t ++ pixOf s m b y, by rw [← List.append_assoc, ← ht]; rfl⟩
    · exact ⟨[], by rw [show a = b + 1 by omega, List.append_nil]⟩
theorem allP_pre {a : Nat} : ∀ {b : Nat}, a ≤ b → ∃ t, allP s m b = allP s m a ++ t
  | 0, h => ⟨[], by rw [Nat.le_zero.1 h, List.append_nil]⟩
  | b + 1, h => by
    rcases Nat.lt_or_ge a (b + 1) with hlt | hge
    · obtain ⟨t, ht⟩ := allP_pre (b := b) (a := a) (by omega)
      exact ⟨t ++ rowP s m b 64, by rw [← List.append_assoc, ← ht]; rfl⟩
    · exact ⟨[], by rw [show a = b + 1 by omega, List.append_nil]⟩
/-- A pixel of the list stands behind those before it. -/
theorem pre_at {y x : Nat} (hy : y < 64) (hx : x < 64) (h : selB s m x y = true) : (preP' s m y x).length < (allP s m 64).length ∧ (allP s m 64)[(preP' s m y x).length]? = some ((x : Int), (y : Int), m x y) := by
  obtain ⟨t, ht⟩ := allP_pre (s := s) (m := m) (a := y + 1) (b := 64) hy
  obtain ⟨r, hr⟩ := rowP_pre (s := s) (m := m) (y := y) (a := x + 1) (b := 64) hx
  have e : allP s m 64 = preP' s m y x ++ ((x : Int), (y : Int), m x y) :: (r ++ t) := by
    rw [ht]
    show (allP s m y ++ rowP s m y 64) ++ t = _
    rw [hr]
    show (allP s m y ++ ((rowP s m y x ++ pixOf s m x y) ++ r)) ++ t = _
    rw [pix_yes h]
    unfold preP'
    simp
  rw [e]
  constructor
  · simp
  · simp
end
/-! ### Memory -/
def cellsP (p : Px) : List Value := [.int .i64 p.1, .int .i64 p.2.1, .int .i64 p.2.2]
def flatP (l : List Px) : List Value := l.flatMap cellsP
theorem flatP_len (l : List Px) : (flatP l).length = l.length * 3 := by
  induction l with
  | nil => rfl
  | cons p l ih =>
    unfold flatP at ih ⊢
    rw [List.flatMap_cons, List.length_append, ih]
    simp [cellsP]
    omega
theorem flatP_add (l : List Px) (p : Px) : flatP l ++ cellsP p = flatP (l ++ [p]) := by unfold flatP; simp
theorem flatP_part (l : List Px) : ∀ (k : Nat) (p : Px), l[k]? = some p → ((flatP l).drop (k * 3)).take 3 = cellsP p := by
  induction l with
  | nil => intro k p h; simp at h
  | cons q l ih =>
    intro k p h
    cases k with
    | zero =>
      simp only [List.getElem?_cons_zero, Option.some.injEq] at h
      subst h
      rfl
    | succ k =>
      simp only [List.getElem?_cons_succ] at h
      have := ih k p h
      rw [show (k + 1) * 3 = k * 3 + 3 by omega]
      show (([Value.int .i64 q.1, .int .i64 q.2.1, .int .i64 q.2.2] ++ flatP l).drop (k * 3 + 3)).take 3 = _
      rw [← this]
      rfl
/-- The slice (A, c) holds these pixels. -/
structure PSl (W : World) (A : Option Addr) (c : Nat) (L : List Px) : Prop where
  nil : A = none → L = [] ∧ c = 0
  lies : 0 < L.length → ∃ b cur, A = some ⟨b, 0, none⟩ ∧ Blk W b 46 cur ∧ ∀ k p, L[k]? = some p → (cur.toList.drop (k * 3)).take 3 = cellsP p
theorem PSl.call {W W' : World} {A : Option Addr} {c : Nat} {L : List Px} (h : PSl W A c L) (hb : Below W.heap.size W W') : PSl W' A c L :=
  ⟨h.nil, fun h0 => let ⟨b, cur, e, hk, hx⟩ := h.lies h0; ⟨b, cur, e, hk.call hb, hx⟩⟩
theorem own_px {W : World} {base : Nat} {v : Value} {L : List Px} (h : W.ownsRow base 46 3 v L.length (flatP L)) : ∃ A c, v = .slice A L.length c ∧ PSl W A c L := by
  obtain ⟨-, ⟨rfl, h0⟩ | ⟨b, c, cur, rfl, hb, hg, hnc, -, hcs, htk⟩⟩ := h
  · have : L = [] := List.eq_nil_of_length_eq_zero h0
    subst this
    exact ⟨none, 0, rfl, fun _ => ⟨rfl, rfl⟩, fun h => absurd h (Nat.lt_irrefl _)⟩
  · refine ⟨some ⟨b, 0, none⟩, c, rfl, nofun, fun _ => ⟨b, cur, rfl, hg, fun k p hp => ?_⟩⟩
    have hk : k < L.length := (List.getElem?_eq_some_iff.1 hp).1
    rw [← flatP_part L k p hp, ← htk, List.drop_take, List.take_take]
    congr 1
    omega
theorem px_info : ∃ i, Try.prog.info? 46 = some i ∧ i.zero = some (.agg #[.int .i64 0, .int .i64 0, .int .i64 0]) ∧ i.size = 3 ∧ i.bytes = 24 := by
  obtain ⟨i, hi⟩ : ∃ i, Try.prog.info? 46 = some i := Option.isSome_iff_exists.1 (by kernel_rfl)
  refine ⟨i, hi, ?_, ?_, ?_⟩
  · have : (Try.prog.info? 46).bind (·.zero) = some (.agg #[.int .i64 0, .int .i64 0, .int .i64 0]) := by kernel_rfl
    simpa [hi] using this
  · have : (Try.prog.info? 46).map (·.size) = some 3 := by kernel_rfl
    simpa [hi] using this
  · have : (Try.prog.info? 46).map (·.bytes) = some 24 := by kernel_rfl
    simpa [hi] using this
/-- 'append(v, p)', v a list of our own, the pixel p in a block of its own. -/
theorem wpList_append_px {w : World} {ops : Array Oper} {rest : List Oper} {o : Oper} {a : Act} {Q : Exit → Act → World → Prop} (hgd : o.guard = none) (s x : Operand)
    (ho : o.op = .call { callee := .builtin .append, args := #[s, x], argTypes := #[43, 43] })
    (base : Nat) (L : List Px) (v : Value) (hs : a.eval s = v) (hown : w.ownsRow base 46 3 v L.length (flatP L)) (B : Nat) (p : Px) (hx : a.eval x = .slice (some ⟨B, 0, none⟩) 1 1)
    (hB : Blk w B 46 #[.int .i64 p.1, .int .i64 p.2.1, .int .i64 p.2.2]) (hlen : L.length ≤ 4096) (hbase : base ≤ w.heap.size)
    (h : ∀ v' w', w'.ownsRow base 46 3 v' (L ++ [p]).length (flatP (L ++ [p])) → Below base w w' → wpList Try.prog ops Q rest (a.put o.dst v') w') : wpList Try.prog ops Q (o :: rest) a w := by
  obtain ⟨i, hi, hz, hsz, hb24⟩ := px_info
  refine wpList_append_own w hgd s x 43 ho base 46 i (.agg #[.int .i64 0, .int .i64 0, .int .i64 0]) 3 24 Try.underlying43 hi hz hsz hb24 rfl (by omega) v L.length (flatP L) hs hown ⟨B, 0, none⟩ 1 1 (cellsP p) hx rfl (fun j u hu => ?_) (fun u hu => ?_) (by simp only [maxLen]; omega) (by omega) hbase (fun v' w' h1 h2 _ => ?_)
  · rw [add_plain, hB.cell]
    simpa [cellsP] using hu
  · simp only [cellsP, List.mem_cons, List.not_mem_nil, or_false] at hu
    rcases hu with rfl | rfl | rfl <;> rfl
  · refine h v' w' ?_ (below_own hown h2 hbase)
    rw [← flatP_add, List.length_append]
    exact h1
end Go.Proofs.Ytgalpmiojgjkhaa
