/- A region that draws its order, whose head reads, calls and makes variables, and whose tail is a chain: one walk of the head, then the tail in its order. The head's variables are known by letters. -/
import Derived.Test.YthbagegkcpblgaaBlk
import Derived.StillTail
namespace Go.Proofs.Ythbagegkcpblgaa
open Go.RowKit
theorem Blk.setRow {W : World} {b : Nat} {t : TypeId} {cs : Array Value} (h : Blk W b t cs) (cs' : Array Value) : Blk (W.setRow b cs') b t cs' := setRow_heap W b cs cs' t (0, 0) h
theorem Blk.new3 (W : World) (t : TypeId) (cs : Array Value) (o o1 o2 : Obj) : Blk ((((W.alloc o).alloc o1).alloc o2).alloc (.cells cs t)) (W.heap.size + 1 + 1 + 1) t cs := by
  have := Blk.new2 (W.alloc o) t cs o1 o2
  rwa [World.size_alloc] at this
theorem below_setRow {B : Nat} {a w : World} (h : Below B a w) {b : Nat} (hb : B ≤ b) (cs : Array Value) : Below B a (w.setRow b cs) :=
  h.trans ⟨rfl, rfl, rfl, by simp [World.setRow], fun k hk => by
    have hne : b ≠ k := by omega
    simp [World.setRow, Array.getElem?_modify, hne]⟩
theorem Blk.farRow {W : World} {b c : Nat} {t : TypeId} {cs : Array Value} (h : Blk W b t cs) (hne : b ≠ c) (cs' : Array Value) : Blk (W.setRow c cs') b t cs := by
  unfold Blk at h ⊢
  have hne' : c ≠ b := fun e => hne e.symm
  simp [World.setRow, Array.getElem?_modify, hne', h]
/-- Is it the making of a variable? -/
def isAl (o : Oper) : Bool := match o.op with | .alloc _ => true | _ => false
/-- Is it a store? -/
def isSt (o : Oper) : Bool := match o.op with | .store .. => true | _ => false
def isMk (o : Oper) : Bool := isAl o || isSt o
/-- A variable that the region makes: the making's index, its slot, its type, its cells as made; the index of the store into it, its cells behind that. -/
structure Let where
  k : Nat
  d : Nat
  T : TypeId
  cs0 : Array Value
  j : Nat
  cs1 : Array Value
def Let.at_ (z : Let) (stored : Bool) : Obj := .cells (if stored = true then z.cs1 else z.cs0) z.T (0, 0)
def allTo (n : Nat) (p : Nat → Bool) : Bool := (List.range n).all p
theorem allTo_spec {n : Nat} {p : Nat → Bool} (h : allTo n p = true) {k : Nat} (hk : k < n) : p k = true := List.all_eq_true.1 h k (List.mem_range.2 hk)
def pairB (ops : Array Oper) (k j : Nat) : Bool :=
  match ops[k]?, ops[j]? with
  | some x, some y => match y.dst with
    | none => true
    | some d => (decide (j = k) || x.dst != some d) && (!(x.looksAt ops).contains d || isAl x || (decide (j < k) && (!isAl y || isSt x) && Region.waitsFor .any ops k j))
  | _, _ => true
def oneB (ops : Array Oper) (k : Nat) : Bool :=
  match ops[k]? with
  | some x => (!isMk x || x.guard.isNone) && x.after.all fun e => !Region.binds .any e || decide (e.on < k)
  | none => true
def headDone (ops : Array Oper) (n : Nat) : Array Bool := (Array.replicate n true) ++ (Array.replicate (ops.size - n) false)
def freshB (ops : Array Oper) (n : Nat) (zs : List (Nat × Nat)) : Bool :=
  Region.noSelect ops && decide (n < ops.size) && Region.sinkB .any ops n && Region.chainB .any ops n && Region.seqB .any ops (ops.size - n) n (headDone ops n) &&
  allTo n (fun k => allTo n fun j => pairB ops k j) && allTo n (oneB ops) && allTo n (fun k => match ops[k]? with | some x => (!isAl x || (zs.map (·.1)).contains k) && (!isSt x || (zs.map (·.2)).contains k) | none => true) && zs.all (fun z => !decide (z.2 < n) || Region.waitsFor .any ops z.2 z.1)
section
variable {P : Program} {ops : Array Oper}
/-- What no operation of the walk writes is as it was. -/
theorem quiet_frame {C : World → Prop} {afin : Act} : ∀ (l : List Oper) (a : Act), wpQuiet P ops C (fun a' => a' = afin) l a →
    afin.defers = a.defers ∧ afin.tmps.size = a.tmps.size ∧ ∀ t : Nat, (∀ o ∈ l, o.dst ≠ some t) → afin.tmps[t]? = a.tmps[t]?
  | [], a, h => by have h : a = afin := h; subst h; exact ⟨rfl, rfl, fun _ _ => rfl⟩
  | o :: l, a, h => by
    have key : ∀ v, wpQuiet P ops C (fun a' => a' = afin) l (a.put o.dst v) → afin.defers = a.defers ∧ afin.tmps.size = a.tmps.size ∧ ∀ t : Nat, (∀ o' ∈ o :: l, o'.dst ≠ some t) → afin.tmps[t]? = a.tmps[t]? := by
      intro v hv
      obtain ⟨h1, h2, h3⟩ := quiet_frame l _ hv
      cases hd : o.dst with
      | none => rw [hd] at h1 h2 h3; exact ⟨h1, h2, fun t ht => h3 t fun o' ho' => ht o' (List.mem_cons_of_mem _ ho')⟩
      | some d =>
        rw [hd] at h1 h2 h3
        refine ⟨h1, h2.trans (by simp [Act.put]), fun t ht => (h3 t fun o' ho' => ht o' (List.mem_cons_of_mem _ ho')).trans ?_⟩
        have hne : d ≠ t := fun e => ht o (List.mem_cons_self ..) (by rw [hd, e])
        simp [Act.put, hne]
    unfold wpQuiet at h
    split at h
    · obtain ⟨v, _, hv⟩ := h; exact key v hv
    · exact key _ h
/-- The walk as it comes to one of its operations. -/
theorem quiet_at {C : World → Prop} {Q : Act → Prop} (o : Oper) (l2 : List Oper) : ∀ (l1 : List Oper) (a : Act), wpQuiet P ops C Q (l1 ++ o :: l2) a →
    ∃ a', wpQuiet P ops C Q (o :: l2) a' ∧ a'.tmps.size = a.tmps.size ∧ ∀ t : Nat, (∀ o' ∈ l1, o'.dst ≠ some t) → a'.tmps[t]? = a.tmps[t]?
  | [], a, h => ⟨a, h, rfl, fun _ _ => rfl⟩
  | x :: l1, a, h => by
    have key : ∀ v, wpQuiet P ops C Q (l1 ++ o :: l2) (a.put x.dst v) → ∃ a', wpQuiet P ops C Q (o :: l2) a' ∧ a'.tmps.size = a.tmps.size ∧ ∀ t : Nat, (∀ o' ∈ x :: l1, o'.dst ≠ some t) → a'.tmps[t]? = a.tmps[t]? := by
      intro v hv
      obtain ⟨a', h1, h2, h3⟩ := quiet_at o l2 l1 _ hv
      cases hd : x.dst with
      | none => rw [hd] at h2 h3; exact ⟨a', h1, h2, fun t ht => h3 t fun o' ho' => ht o' (List.mem_cons_of_mem _ ho')⟩
      | some d =>
        rw [hd] at h2 h3
        refine ⟨a', h1, h2.trans (by simp [Act.put]), fun t ht => (h3 t fun o' ho' => ht o' (List.mem_cons_of_mem _ ho')).trans ?_⟩
        have hne : d ≠ t := fun e => ht x (List.mem_cons_self ..) (by rw [hd, e])
        simp [Act.put, hne]
    rw [List.cons_append] at h
    unfold wpQuiet at h
    split at h
    · obtain ⟨v, _, hv⟩ := h; exact key v hv
    · exact key _ h
theorem count_set {p p' : Nat → Bool} {i : Nat} (hne : ∀ j, j ≠ i → p' j = p j) (hi : p i = true) (hi' : p' i = false) : ∀ n, i < n → ((List.range n).countP p) = ((List.range n).countP p') + 1
  | 0, h => absurd h (Nat.not_lt_zero _)
  | n + 1, h => by
    rw [List.range_succ, List.countP_append, List.countP_append]
    by_cases hn : i = n
    · subst hn
      have : ∀ m, m ≤ i → (List.range m).countP p = (List.range m).countP p' := by
        intro m hm
        apply List.countP_congr
        intro x hx
        have := List.mem_range.1 hx
        rw [hne x (by omega)]
      rw [this i (Nat.le_refl _)]
      simp [hi, hi']
    · have := count_set hne hi hi' n (by omega)
      rw [this]
      have e : p' n = p n := hne n (fun h => hn h.symm)
      simp [List.countP_cons, e]
      omega
theorem yielded_congr {t1 t2 : Array Value} (o : Oper) (h : ∀ t ∈ o.looksAt ops, t1[t]? = t2[t]?) : Region.wanted o (yielded ops t1) = Region.wanted o (yielded ops t2) := by
  unfold Region.wanted
  cases hg : o.guard with
  | none => rfl
  | some gw =>
    obtain ⟨g, want⟩ := gw
    have e : yielded ops t1 g = yielded ops t2 g := by
      unfold yielded
      cases hd : (ops[g]?).bind (·.dst) with
      | none => rfl
      | some d =>
        have hm : d ∈ o.looksAt ops := by
          unfold Oper.looksAt
          rw [hg]
          exact List.mem_append_right _ (by simp [hd])
        simp only [Option.bind_some, h d hm]
    simp only [e]
theorem run_congr {a1 a2 : Act} (o : Oper) (hs : ∀ cs b, o.op ≠ .select cs b) (h : ∀ t ∈ o.looksAt ops, a1.tmps[t]? = a2.tmps[t]?) : execOp a1.eval o = execOp a2.eval o :=
  execOp_congr o hs fun x hx => by
    cases x with
    | tmp t =>
      have hm : t ∈ o.looksAt ops := List.mem_append_left _ (List.mem_filterMap.2 ⟨.tmp t, by simpa using hx, rfl⟩)
      have := h t hm
      simp only [Act.eval, Array.getD_eq_getD_getElem?, this]
    | _ => rfl
def ptrTo (b : Nat) : Value := .pointer (some ⟨b, 0, none⟩)
structure HInv (ops : Array Oper) (n : Nat) (a afin : Act) (w : World) (zs : List Let) (listed : Array Bool) (ar : Act) (x : World) (ℓ : Nat → Nat) : Prop where
  hd : HeadInv .any ops n listed
  bel : Below w.heap.size w x
  size : ar.tmps.size = a.tmps.size
  defs : ar.defers = a.defers
  q : ∀ (k : Nat) o d, k < n → ops[k]? = some o → isAl o = false → listed.getD k false = true → o.dst = some d → ar.tmps[d]? = afin.tmps[d]?
  al : ∀ z ∈ zs, listed.getD z.k false = true → ar.tmps[z.d]? = some (ptrTo (ℓ z.k)) ∧ x.heap[ℓ z.k]? = some (z.at_ (listed.getD z.j false)) ∧ w.heap.size ≤ ℓ z.k
  ne : ∀ z ∈ zs, ∀ y ∈ zs, z.k ≠ y.k → listed.getD z.k false = true → listed.getD y.k false = true → ℓ z.k ≠ ℓ y.k
  other : ∀ t : Nat, (∀ k o, k < n → ops[k]? = some o → o.dst = some t → listed.getD k false = false) → ar.tmps[t]? = a.tmps[t]?
/-- The letters' places, laid into the frame. -/
def lay (zs : List Let) (ℓ : Nat → Nat) (a : Act) : Act := zs.foldl (fun a z => a.put (some z.d) (ptrTo (ℓ z.k))) a
theorem lay_out : ∀ (zs : List Let) (ℓ : Nat → Nat) (a ar : Act), (zs.map (·.d)).Nodup → ar.defers = a.defers → ar.tmps.size = a.tmps.size → (∀ z ∈ zs, ar.tmps[z.d]? = some (ptrTo (ℓ z.k))) →
    (∀ t : Nat, (∀ z ∈ zs, z.d ≠ t) → ar.tmps[t]? = a.tmps[t]?) → ar = lay zs ℓ a
  | [], ℓ, a, ar, _, h1, h2, _, h4 => by
    obtain ⟨t1, d1⟩ := a
    obtain ⟨t2, d2⟩ := ar
    simp only at h1 h2 h4
    subst h1
    have : t2 = t1 := Array.ext_getElem? fun i => h4 i (by simp)
    subst this
    rfl
  | z :: zs, ℓ, a, ar, hn, h1, h2, h3, h4 => by
    have hn' : z.d ∉ zs.map (·.d) ∧ (zs.map (·.d)).Nodup := by simpa using hn
    refine lay_out zs ℓ (a.put (some z.d) (ptrTo (ℓ z.k))) ar hn'.2 h1 (h2.trans (by simp [Act.put])) (fun y hy => h3 y (List.mem_cons_of_mem _ hy)) fun t ht => ?_
    by_cases e : z.d = t
    · have h := h3 z (List.mem_cons_self ..)
      rw [← e, h]
      have hlt : z.d < a.tmps.size := by rw [← h2]; exact (Array.getElem?_eq_some_iff.1 h).1
      simp [Act.put, hlt]
    · rw [h4 t (by intro y hy; rcases List.mem_cons.1 hy with rfl | hy; exact e; exact ht y hy)]
      simp [Act.put, e]
end
section
variable {P : Program} {l : List Oper} {a afin : Act} {w : World} {zs : List Let} {n : Nat} {Q : Exit → Act → World → Prop}
theorem head_split {i : Nat} {o : Oper} (hi : i < n) (ho : l[i]? = some o) (hal : isMk o = false) :
    (l.take n).filter (fun o => !isMk o) = (l.take i).filter (fun o => !isMk o) ++ o :: ((l.take n).drop (i + 1)).filter (fun o => !isMk o) := by
  have hlt : i < (l.take n).length := by
    have := (List.getElem?_eq_some_iff.1 ho).1
    rw [List.length_take]; omega
  have he : (l.take n)[i] = o := by
    rw [List.getElem_take]
    exact (List.getElem?_eq_some_iff.1 ho).2
  have h1 : l.take n = (l.take n).take i ++ o :: (l.take n).drop (i + 1) := by
    rw [← he, List.getElem_cons_drop, List.take_append_drop]
  have h2 : (l.take n).take i = l.take i := by rw [List.take_take, Nat.min_eq_left (by omega)]
  conv => lhs; rw [h1]
  rw [List.filter_append, h2, List.filter_cons]
  simp [hal]
end
section
variable {P : Program} {l : List Oper} {a afin : Act} {w : World} {zs : List Let} {n : Nat} {Q : Exit → Act → World → Prop}
/-- What the kernel's word on a region says. -/
structure FreshOk (ops : Array Oper) (n : Nat) (zs : List (Nat × Nat)) : Prop where
  sel : Region.noSelect ops = true
  lt : n < ops.size
  sink : Region.sinkB .any ops n = true
  chain : Region.chainB .any ops n = true
  seq : Region.seqB .any ops (ops.size - n) n (headDone ops n) = true
  dst : ∀ k j (x y : Oper) (d : Nat), k < n → j < n → ops[k]? = some x → ops[j]? = some y → j ≠ k → y.dst = some d → x.dst ≠ some d
  look : ∀ k j (x y : Oper) (d : Nat), k < n → j < n → ops[k]? = some x → ops[j]? = some y → y.dst = some d → isAl x = false → d ∈ x.looksAt ops → j < k ∧ (isAl y = false ∨ isSt x = true) ∧ Region.waitsFor .any ops k j = true
  alg : ∀ (k : Nat) x, k < n → ops[k]? = some x → isMk x = true → x.guard = none
  edge : ∀ (k : Nat) x, k < n → ops[k]? = some x → ∀ e ∈ x.after, Region.binds .any e = true → e.on < k
  all : ∀ (k : Nat) x, k < n → ops[k]? = some x → isAl x = true → k ∈ zs.map (·.1)
  alls : ∀ (k : Nat) x, k < n → ops[k]? = some x → isSt x = true → k ∈ zs.map (·.2)
  wait : ∀ z ∈ zs, z.2 < n → Region.waitsFor .any ops z.2 z.1 = true
theorem freshB_spec {ops : Array Oper} {n : Nat} {zs : List (Nat × Nat)} (h : freshB ops n zs = true) : FreshOk ops n zs := by
  unfold freshB at h
  simp only [Bool.and_eq_true, decide_eq_true_eq] at h
  obtain ⟨⟨⟨⟨⟨⟨⟨⟨h1, h2⟩, h3⟩, h4⟩, h5⟩, h6⟩, h7⟩, h8⟩, h9⟩ := h
  have pr : ∀ k j (x y : Oper) (d : Nat), k < n → j < n → ops[k]? = some x → ops[j]? = some y → y.dst = some d →
      (j = k ∨ x.dst ≠ some d) ∧ (d ∈ x.looksAt ops → isAl x = false → j < k ∧ (isAl y = false ∨ isSt x = true) ∧ Region.waitsFor .any ops k j = true) := by
    intro k j x y d hk hj hx hy hd
    have h := allTo_spec (allTo_spec h6 hk) hj
    unfold pairB at h
    simp only [hx, hy, hd, Bool.and_eq_true, Bool.or_eq_true, decide_eq_true_eq, bne_iff_ne, ne_eq, Bool.not_eq_true'] at h
    refine ⟨h.1, fun hm ha => ?_⟩
    rcases h.2 with (h' | h') | h'
    · rw [List.contains_iff_mem.2 hm] at h'; cases h'
    · rw [ha] at h'; cases h'
    · exact ⟨h'.1.1, h'.1.2, h'.2⟩
  refine ⟨h1, h2, h3, h4, h5, fun k j x y d hk hj hx hy hne hd => ?_, fun k j x y d hk hj hx hy hd ha hm => (pr k j x y d hk hj hx hy hd).2 hm ha, fun k x hk hx ha => ?_, fun k x hk hx e he hb => ?_, fun k x hk hx ha => ?_, fun k x hk hx ha => ?_, fun z hz hj => ?_⟩
  · exact (pr k j x y d hk hj hx hy hd).1.resolve_left hne
  · have h := allTo_spec h7 hk
    unfold oneB at h
    simp only [hx, ha, Bool.not_true, Bool.false_or, Bool.and_eq_true, Option.isNone_iff_eq_none] at h
    exact h.1
  · have h := allTo_spec h7 hk
    unfold oneB at h
    simp only [hx, Bool.and_eq_true] at h
    have := Array.all_eq_true_iff_forall_mem.1 h.2 e he
    simpa [hb] using this
  · have h := allTo_spec h8 hk
    simp only [hx, ha, Bool.not_true, Bool.false_or, Bool.and_eq_true] at h
    exact List.contains_iff_mem.1 h.1
  · have h := allTo_spec h8 hk
    simp only [hx, ha, Bool.not_true, Bool.false_or, Bool.and_eq_true] at h
    exact List.contains_iff_mem.1 h.2
  · have h := List.all_eq_true.1 h9 z hz
    simpa [hj] using h
theorem waits_listed {ops : Array Oper} {listed : Array Bool} {k j : Nat} (hr : k ∈ Region.ready .any ops listed) (hw : Region.waitsFor .any ops k j = true) : listed.getD j false = true := by
  obtain ⟨o, ho, e, he, hb, hon⟩ := Region.waitsFor_spec hw
  obtain ⟨_, o', ho', hall⟩ := mem_ready.1 hr
  have : o' = o := Option.some.inj (ho'.symm.trans ho)
  subst this
  rw [← hon]
  exact hall e he hb
/-- The letters' facts in the world in which the tail begins. -/
def LetFacts (n : Nat) (w : World) (zs : List Let) (ℓ : Nat → Nat) (x : World) : Prop :=
  Below w.heap.size w x ∧ (∀ z ∈ zs, x.heap[ℓ z.k]? = some (z.at_ (decide (z.j < n))) ∧ w.heap.size ≤ ℓ z.k) ∧ ∀ z ∈ zs, ∀ y ∈ zs, z.k ≠ y.k → ℓ z.k ≠ ℓ y.k
theorem done_eq {ops : Array Oper} {listed : Array Bool} (hn : n < ops.size) (hd : HeadInv .any ops n listed) (hall : ∀ i, i < n → listed.getD i true = true) : listed = headDone ops n := by
  apply Array.ext_getElem?
  intro i
  unfold headDone
  by_cases h1 : i < n
  · have hs : i < listed.size := by rw [hd.size]; omega
    have := hall i h1
    rw [Array.getElem?_append_left (by simpa using h1)]
    simp [hs] at this ⊢
    simp [h1, this]
  · by_cases h2 : i < ops.size
    · have hs : i < listed.size := by rw [hd.size]; omega
      have := hd.tail i (by omega) h2
      rw [Array.getElem?_append_right (by simp; omega)]
      simp [hs] at this ⊢
      rw [this]
      simp [Array.getElem?_replicate]
      omega
    · have hs : listed.size ≤ i := by rw [hd.size]; omega
      rw [Array.getElem?_eq_none hs, Array.getElem?_eq_none (by simp; omega)]
theorem put_other {ar : Act} {d : Option Nat} {v : Value} {t : Nat} (h : d ≠ some t) : (ar.put d v).tmps[t]? = ar.tmps[t]? := by
  cases d with
  | none => rfl
  | some d =>
    have : d ≠ t := fun e => h (by rw [e])
    simp [Act.put, this]
theorem put_size {ar : Act} {d : Option Nat} {v : Value} : (ar.put d v).tmps.size = ar.tmps.size := by
  cases d <;> simp [Act.put]
theorem put_defers {ar : Act} {d : Option Nat} {v : Value} : (ar.put d v).defers = ar.defers := by
  cases d <;> rfl
theorem ready_ex {ops : Array Oper} {listed : Array Bool} (hok : FreshOk ops n (zs.map fun z => (z.k, z.j))) (hd : HeadInv .any ops n listed) (m : Nat) : m < n → listed.getD m true = false → ∃ j, j ∈ Region.ready .any ops listed := by
  induction m using Nat.strongRecOn with
  | _ m ih =>
    intro hm hun
    have hlt : m < ops.size := Nat.lt_trans hm hok.lt
    have ho : ops[m]? = some ops[m] := by simp [hlt]
    by_cases hall : ∀ e ∈ ops[m].after, Region.binds .any e = true → listed.getD e.on false = true
    · exact ⟨m, mem_ready.2 ⟨hun, _, ho, hall⟩⟩
    · have : ∃ e ∈ ops[m].after, Region.binds .any e = true ∧ listed.getD e.on false = false := by
        refine Classical.byContradiction fun hno => hall fun e he hb => ?_
        cases hl : listed.getD e.on false with
        | true => rfl
        | false => exact absurd ⟨e, he, hb, hl⟩ hno
      obtain ⟨e, he, hb, hl⟩ := this
      have hlt' := hok.edge m _ hm ho e he hb
      exact ih e.on hlt' (by omega) (getD_in (by rw [hd.size]; omega) hl)
theorem same_of {α : Type} (g : α → Nat) : ∀ {zs : List α}, (zs.map g).Nodup → ∀ z ∈ zs, ∀ y ∈ zs, g z = g y → z = y
  | [], _, z, hz, _, _, _ => by cases hz
  | x :: zs, hn, z, hz, y, hy, e => by
    have hn' : g x ∉ zs.map g ∧ (zs.map g).Nodup := List.nodup_cons.1 (by simpa using hn)
    rcases List.mem_cons.1 hz with rfl | hz2
    · rcases List.mem_cons.1 hy with rfl | hy2
      · rfl
      · exact absurd (List.mem_map.2 ⟨y, hy2, e.symm⟩) hn'.1
    · rcases List.mem_cons.1 hy with rfl | hy2
      · exact absurd (List.mem_map.2 ⟨z, hz2, e⟩) hn'.1
      · exact same_of g hn'.2 z hz2 y hy2 e
theorem mem_head {o : Oper} (h : o ∈ (l.take n).filter (fun o => !isMk o)) : ∃ k : Nat, k < n ∧ l.toArray[k]? = some o ∧ isMk o = false := by
  obtain ⟨h1, h2⟩ := List.mem_filter.1 h
  obtain ⟨k, hk⟩ := List.mem_iff_getElem?.1 h1
  rw [List.getElem?_take] at hk
  split at hk
  · rename_i hlt; exact ⟨k, hlt, by simpa using hk, by simpa using h2⟩
  · cases hk
theorem not_al {o : Oper} (h : isMk o = false) : isAl o = false := by unfold isMk at h; simp at h; exact h.1
theorem not_st {o : Oper} (h : isMk o = false) : isSt o = false := by unfold isMk at h; simp at h; exact h.2
theorem st_not_al {o : Oper} (h : isSt o = true) : isAl o = false := by unfold isSt at h; unfold isAl; split <;> simp_all
/-- The store into a letter's block. -/
def StOk (P : Program) (ops : Array Oper) (n : Nat) (zs : List Let) (afin : Act) (z : Let) : Prop :=
  z.j < n → ∃ o ty y, ops[z.j]? = some o ∧ o.op = .store ty (.tmp z.d) y ∧ (∀ t, y = .tmp t → t ∉ zs.map (·.d)) ∧ o.dst = none ∧ afin.eval y = .agg z.cs1 ∧ (P.info? ty).map (·.size) = some z.cs1.size ∧ z.cs0.size = z.cs1.size ∧ z.cs1.all (·.oneCell') = true
theorem fresh_run (hok : FreshOk l.toArray n (zs.map fun z => (z.k, z.j))) (hnd : (zs.map (·.d)).Nodup) (hn1 : (zs.map (·.k)).Nodup) (hnj : (zs.map (·.j)).Nodup) (hjn : ∀ z ∈ zs, z.j < l.toArray.size)
    (hz : ∀ z ∈ zs, z.k < n ∧ z.d < a.tmps.size ∧ ∃ o, l.toArray[z.k]? = some o ∧ isAl o = true ∧ o.dst = some z.d ∧ ∀ ev x, (execOp ev o).run P x = .ok (.value (ptrTo x.heap.size)) (x.alloc (z.at_ false)))
    (h1 : ∀ u, Below w.heap.size w u → wpQuiet P l.toArray (fun x => ∃ m : Ext u u.heap.size, x = m.val) (fun a' => a' = afin) ((l.take n).filter (fun o => !isMk o)) a)
    (hs : ∀ z ∈ zs, StOk P l.toArray n zs afin z)
    (h2 : ∀ ℓ x, LetFacts n w zs ℓ x → wpList P l.toArray Q (l.drop n) (lay zs ℓ afin) x) :
    ∀ (f : Nat) (listed : Array Bool) (ar : Act) (x : World) (ℓ : Nat → Nat), HInv l.toArray n a afin w zs listed ar x ℓ → (List.range n).countP (fun i => !listed.getD i true) = f →
      wpAny P .any l.toArray Q (f + (l.toArray.size - n)) listed ar x := by
  have hf := quiet_frame _ a (h1 w (Below.refl _ _))
  intro f
  induction f with
  | zero =>
    intro listed ar x ℓ inv hc
    have hall : ∀ i, i < n → listed.getD i true = true := fun i hi => by
      have := List.countP_eq_zero.1 hc i (List.mem_range.2 hi)
      simpa using this
    have hall' : ∀ i, i < n → listed.getD i false = true := fun i hi => by
      have h := hall i hi
      have hs : i < listed.size := by rw [inv.hd.size]; have := hok.lt; omega
      simp [hs] at h ⊢; exact h
    have e := done_eq hok.lt inv.hd hall
    have hst : ∀ z ∈ zs, listed.getD z.j false = decide (z.j < n) := fun z hzm => by
      by_cases hj : z.j < n
      · rw [hall' _ hj]; simp [hj]
      · rw [getD_both (inv.hd.tail z.j (by omega) (hjn z hzm))]; simp [hj]
    have hlet : LetFacts n w zs ℓ x := ⟨inv.bel, fun z hz' => (by have h := (inv.al z hz' (hall' _ (hz z hz').1)).2; rw [hst z hz'] at h; exact h), fun z hz' y hy hne => inv.ne z hz' y hy hne (hall' _ (hz z hz').1) (hall' _ (hz y hy).1)⟩
    have har : ar = lay zs ℓ afin := by
      refine lay_out zs ℓ afin ar hnd (inv.defs.trans hf.1.symm) (inv.size.trans hf.2.1.symm) (fun z hz' => (inv.al z hz' (hall' _ (hz z hz').1)).1) fun t ht => ?_
      by_cases hq : ∃ (k : Nat) (o : Oper), k < n ∧ l.toArray[k]? = some o ∧ isAl o = false ∧ o.dst = some t
      · obtain ⟨k, o, hk, ho, ha, hd⟩ := hq
        exact inv.q k o t hk ho ha (hall' k hk) hd
      · rw [inv.other t, hf.2.2 t]
        · intro o ho hd
          obtain ⟨k, hk, ho', ha⟩ := mem_head ho
          exact hq ⟨k, o, hk, ho', not_al ha, hd⟩
        · intro k o hk ho hd
          exfalso
          cases ha : isAl o with
          | false => exact hq ⟨k, o, hk, ho, ha, hd⟩
          | true =>
            have hmm := hok.all k o hk ho ha
            rw [List.map_map] at hmm
            obtain ⟨z, hzm, hzk⟩ := List.mem_map.1 hmm
            simp only [Function.comp] at hzk
            obtain ⟨_, _, o', ho', _, hd', _⟩ := hz z hzm
            rw [hzk, ho] at ho'
            obtain rfl := Option.some.inj ho'
            rw [hd] at hd'
            exact ht z hzm (Option.some.inj hd').symm
    have h3 := h2 ℓ x hlet
    rw [← har] at h3
    have hdl : (l.drop n).length = l.toArray.size - n := by simp
    have h4 := wpAny_of_seq (md := .any) (Q' := Q) (l.drop n) n listed ar x (fun j => by simp [List.getElem?_drop]) (by rw [hdl, e]; exact hok.seq) h3
    rw [hdl] at h4
    rw [Nat.zero_add]
    exact h4
  | succ f ih =>
    intro listed ar x ℓ inv hc
    have hex : ∃ m, m < n ∧ listed.getD m true = false := by
      have hpos : 0 < (List.range n).countP (fun i => !listed.getD i true) := by omega
      obtain ⟨m, hm, hm'⟩ := List.countP_pos_iff.1 hpos
      exact ⟨m, List.mem_range.1 hm, by simpa using hm'⟩
    obtain ⟨m, hm, hun⟩ := hex
    rw [show f + 1 + (l.toArray.size - n) = (f + (l.toArray.size - n)) + 1 by omega]
    refine ⟨fun h0 => ?_, fun i hi => ?_⟩
    · obtain ⟨j, hj⟩ := ready_ex hok inv.hd m hm hun
      rw [h0] at hj; cases hj
    have hin : i < n := by
      rcases Nat.lt_or_ge i n with h | h
      · exact h
      · exact absurd hi (tail_waits hok.sink hok.chain hok.lt inv.hd _ m rfl hm hun i h)
    obtain ⟨hiun, o, ho, hdeps⟩ := mem_ready.1 hi
    have his : i < listed.size := by rw [inv.hd.size]; have := hok.lt; omega
    have hself : (listed.setIfInBounds i true).getD i false = true := by simp [his]
    have hcount : (List.range n).countP (fun j => !(listed.setIfInBounds i true).getD j true) = f := by
      have := count_set (p := fun j => !listed.getD j true) (p' := fun j => !(listed.setIfInBounds i true).getD j true) (i := i)
        (fun j hj => by rw [getD_set_ne true (Ne.symm hj)]) (by rw [hiun]; rfl) (by simp [his]) n hin
      omega
    have hunl : ∀ t : Nat, (∀ k o, k < n → l.toArray[k]? = some o → o.dst = some t → (listed.setIfInBounds i true).getD k false = false) → o.dst ≠ some t ∧ ∀ k o, k < n → l.toArray[k]? = some o → o.dst = some t → listed.getD k false = false := by
      intro t ht
      have hne : o.dst ≠ some t := fun e => by
        have := ht i o hin ho e
        rw [hself] at this; cases this
      refine ⟨hne, fun k o' hk ho' hd' => ?_⟩
      have hki : i ≠ k := fun e => by
        subst e
        rw [ho] at ho'
        obtain rfl := Option.some.inj ho'
        exact hne hd'
      have := ht k o' hk ho' hd'
      rwa [getD_set_ne false hki] at this
    cases hmk : isMk o with
    | false =>
      have hal := not_al hmk
      have hns := not_st hmk
      have ho' : l[i]? = some o := by simpa using ho
      have hw := h1 x inv.bel
      rw [head_split hin ho' hmk] at hw
      obtain ⟨a', ha', hsz, hfr⟩ := quiet_at o _ _ a hw
      have hfr' := quiet_frame _ a' ha'
      have later : ∀ o' ∈ ((l.take n).drop (i + 1)).filter (fun o => !isMk o), ∃ k : Nat, i < k ∧ k < n ∧ l.toArray[k]? = some o' := by
        intro o' hm'
        obtain ⟨k, hk⟩ := List.mem_iff_getElem?.1 (List.mem_filter.1 hm').1
        rw [List.getElem?_drop, List.getElem?_take] at hk
        split at hk
        · rename_i hlt; exact ⟨i + 1 + k, by omega, hlt, by simpa using hk⟩
        · cases hk
      have earlier : ∀ o' ∈ (l.take i).filter (fun o => !isMk o), ∃ k : Nat, k < i ∧ l.toArray[k]? = some o' := by
        intro o' hm'
        obtain ⟨k, hk, ho', _⟩ := mem_head hm'
        exact ⟨k, hk, ho'⟩
      have agree : ∀ t ∈ o.looksAt l.toArray, ar.tmps[t]? = a'.tmps[t]? := by
        intro t ht
        by_cases hwr : ∃ (k : Nat) (o' : Oper), k < n ∧ l.toArray[k]? = some o' ∧ o'.dst = some t
        · obtain ⟨k, o', hk, hok', hd'⟩ := hwr
          obtain ⟨hki, hna, hwt⟩ := hok.look i k o o' t hin hk ho hok' hd' hal ht
          have hna : isAl o' = false := by rcases hna with h | h; exact h; (rw [hns] at h; cases h)
          rw [inv.q k o' t hk hok' hna (waits_listed hi hwt) hd', hfr'.2.2 t]
          intro o2 ho2 hd2
          rcases List.mem_cons.1 ho2 with rfl | ho2
          · have := (hok.look i i o2 o2 t hin hin ho ho hd2 hal ht).1; omega
          · obtain ⟨j, hij, hjn, hj⟩ := later o2 ho2
            have := (hok.look i j o o2 t hin hjn ho hj hd2 hal ht).1; omega
        · rw [inv.other t fun k o' hk hok' hd' => absurd ⟨k, o', hk, hok', hd'⟩ hwr, hfr t]
          intro o2 ho2 hd2
          obtain ⟨k, hk, hk'⟩ := earlier o2 ho2
          exact hwr ⟨k, o2, by omega, hk', hd2⟩
      have hwant := yielded_congr (ops := l.toArray) o agree
      have hrun := run_congr (ops := l.toArray) o (fun cs b => Region.noSelect_spec hok.sel i o cs b ho) agree
      have go : ∀ v x', wpQuiet P l.toArray (fun y => ∃ m : Ext x x.heap.size, y = m.val) (fun a' => a' = afin) (((l.take n).drop (i + 1)).filter (fun o => !isMk o)) (a'.put o.dst v) →
          Below x.heap.size x x' → wpAny P .any l.toArray Q (f + (l.toArray.size - n)) (listed.setIfInBounds i true) (ar.put o.dst v) x' := by
        intro v x' hq hb
        refine ih _ _ _ ℓ ⟨inv.hd.set hi hin, inv.bel.trans (hb.mono inv.bel.size), put_size.trans inv.size, put_defers.trans inv.defs, ?_, ?_, ?_, ?_⟩ hcount
        · intro k o' d hk hk' hna hl hd
          by_cases hki : k = i
          · subst hki
            rw [ho] at hk'
            obtain rfl := Option.some.inj hk'
            have hq' := (quiet_frame _ _ hq).2.2 d fun o2 ho2 hd2 => by
              obtain ⟨j, hij, hjn, hj⟩ := later o2 ho2
              exact hok.dst k j o o2 d hk hjn ho hj (by omega) hd2 hd
            rw [hq', hd]
            simp only [Act.put, Array.getElem?_setIfInBounds, inv.size, hsz]
            split <;> simp_all
          · rw [getD_set_ne false (Ne.symm hki)] at hl
            rw [put_other (hok.dst i k o o' d hin hk ho hk' hki hd)]
            exact inv.q k o' d hk hk' hna hl hd
        · intro z hzm hl
          obtain ⟨hzn, _, o', ho2, ha2, hd2, _⟩ := hz z hzm
          have hzi : z.k ≠ i := fun e => by
            rw [e, ho] at ho2
            obtain rfl := Option.some.inj ho2
            rw [hal] at ha2; cases ha2
          rw [getD_set_ne false (Ne.symm hzi)] at hl
          have hji : z.j ≠ i := fun e => by
            obtain ⟨o3, _, _, ho3, hop, _⟩ := hs z hzm (by omega)
            rw [e, ho] at ho3
            obtain rfl := Option.some.inj ho3
            unfold isSt at hns
            rw [hop] at hns; cases hns
          rw [getD_set_ne false (Ne.symm hji)]
          obtain ⟨e1, e2, e3⟩ := inv.al z hzm hl
          refine ⟨by rw [put_other (hok.dst i z.k o o' _ hin hzn ho ho2 hzi hd2)]; exact e1, ?_, e3⟩
          have hlt : ℓ z.k < x.heap.size := (Array.getElem?_eq_some_iff.1 e2).1
          rw [hb.block _ hlt]; exact e2
        · intro z hzm y hym hne hlz hly
          have al_ne : ∀ y ∈ zs, y.k ≠ i := fun y hym e => by
            obtain ⟨_, _, o', ho2, ha2, _⟩ := hz y hym
            rw [e, ho] at ho2
            obtain rfl := Option.some.inj ho2
            rw [hal] at ha2; cases ha2
          rw [getD_set_ne false (Ne.symm (al_ne z hzm))] at hlz
          rw [getD_set_ne false (Ne.symm (al_ne y hym))] at hly
          exact inv.ne z hzm y hym hne hlz hly
        · intro t ht
          obtain ⟨hne, hno⟩ := hunl t ht
          rw [put_other hne]
          exact inv.other t hno
      unfold wpOp
      simp only [ho]
      rw [hwant]
      unfold wpQuiet at ha'
      split at ha'
      · rename_i hwt
        rw [if_pos hwt]
        refine .inl ?_
        obtain ⟨v, hv, hnext⟩ := ha'
        have h3 := hv x ⟨⟨x, Below.refl _ _⟩, rfl⟩
        unfold Oper.quietAt at h3
        unfold Oper.wp
        rw [hrun]
        generalize (execOp a'.eval o).run P x = r at *
        cases r with
        | ok nx x' =>
          cases nx <;> simp only [Oper.quietUpon] at h3 <;> simp only [Oper.upon]
          case value u =>
            obtain ⟨e1, e2⟩ := h3
            rw [e1, e2]
            exact go v x hnext (Below.refl _ _)
          case skip =>
            obtain ⟨e1, e2⟩ := h3
            rw [e1, ← e2]
            exact go v x hnext (Below.refl _ _)
          case enter g args =>
            obtain ⟨e1, hcl⟩ := h3
            rw [e1]
            refine hcl.mono fun e x'' ⟨he, m, hm⟩ => ?_
            subst he
            rw [hm]
            exact go v m.val hnext m.below
        | halt y x' => simp only [Oper.quietUpon] at h3
      · rename_i hwt
        rw [if_neg hwt]
        exact go _ x ha' (Below.refl _ _)
    | true =>
     have hg : Region.wanted o (yielded l.toArray ar.tmps) = true := by
        unfold Region.wanted; rw [hok.alg i o hin ho hmk]
     cases hal : isAl o with
     | true =>
      have hmm := hok.all i o hin ho hal
      rw [List.map_map] at hmm
      obtain ⟨z, hzm, hzi⟩ := List.mem_map.1 hmm
      simp only [Function.comp] at hzi
      obtain ⟨_, hzs, o', ho2, _, hd, hrun⟩ := hz z hzm
      rw [hzi, ho] at ho2
      obtain rfl := Option.some.inj ho2
      unfold wpOp
      simp only [ho]
      rw [if_pos hg]
      refine .inl ?_
      unfold Oper.wp
      rw [hrun ar.eval x]
      simp only [Oper.upon]
      have old : ∀ y ∈ zs, y.k ≠ i → (listed.setIfInBounds i true).getD y.k false = true → listed.getD y.k false = true := fun y _ hne hl => by
        rwa [getD_set_ne false (Ne.symm hne)] at hl
      have keepj : ∀ y ∈ zs, y.j ≠ i := fun y hym e => by
        obtain ⟨o3, _, _, ho3, hop, _⟩ := hs y hym (by omega)
        rw [e, ho] at ho3
        obtain rfl := Option.some.inj ho3
        unfold isAl at hal
        rw [hop] at hal; cases hal
      have new : listed.getD z.j false = false := by
        by_cases hj : z.j < n
        · cases hl : listed.getD z.j false with
          | false => rfl
          | true =>
            obtain ⟨oj, hoj, e, he, hb, hon⟩ := Region.waitsFor_spec (hok.wait (z.k, z.j) (List.mem_map.2 ⟨z, hzm, rfl⟩) hj)
            have h := inv.hd.closed z.j oj hoj hl e he hb
            rw [hon] at h
            simp only [hzi] at h
            rw [getD_both hiun] at h; cases h
        · exact getD_both (inv.hd.tail z.j (by omega) (hjn z hzm))
      refine ih _ _ _ (fun j => if j = i then x.heap.size else ℓ j) ⟨inv.hd.set hi hin, inv.bel.alloc inv.bel.size _, put_size.trans inv.size, put_defers.trans inv.defs, ?_, ?_, ?_, ?_⟩ hcount
      · intro k o' d hk hk' hna hl hd'
        have hki : k ≠ i := fun e => by
          subst e
          rw [ho] at hk'
          obtain rfl := Option.some.inj hk'
          rw [hal] at hna; cases hna
        rw [getD_set_ne false (Ne.symm hki)] at hl
        rw [put_other (hok.dst i k o o' d hin hk ho hk' hki hd')]
        exact inv.q k o' d hk hk' hna hl hd'
      · intro y hym hl
        by_cases hyi : y.k = i
        · obtain rfl := same_of (·.k) hn1 z hzm y hym (hzi.trans hyi.symm)
          refine ⟨?_, ?_, ?_⟩
          · rw [hd, if_pos hyi]
            have : z.d < ar.tmps.size := by rw [inv.size]; exact hzs
            simp [Act.put, this]
          · rw [if_pos hyi, getD_set_ne false (Ne.symm (keepj z hym)), new]
            show (x.heap.push _)[x.heap.size]? = _
            simp
          · rw [if_pos hyi]; exact inv.bel.size
        · obtain ⟨e1, e2, e3⟩ := inv.al y hym (old y hym hyi hl)
          obtain ⟨hyn, _, o', ho2, _, hd2, _⟩ := hz y hym
          rw [if_neg hyi, getD_set_ne false (Ne.symm (keepj y hym))]
          refine ⟨by rw [put_other (hok.dst i y.k o o' _ hin hyn ho ho2 hyi hd2)]; exact e1, ?_, e3⟩
          have hlt : ℓ y.k < x.heap.size := (Array.getElem?_eq_some_iff.1 e2).1
          rw [Below.heap_alloc x _ _ hlt]; exact e2
      · intro y hym u hum hne hly hlu
        have lt_of : ∀ y ∈ zs, y.k ≠ i → (listed.setIfInBounds i true).getD y.k false = true → ℓ y.k < x.heap.size := fun y hym hne hl =>
          (Array.getElem?_eq_some_iff.1 (inv.al y hym (old y hym hne hl)).2.1).1
        by_cases hyi : y.k = i
        · by_cases hui : u.1 = i
          · exact absurd (hyi.trans hui.symm) hne
          · have := lt_of u hum hui hlu
            rw [if_pos hyi, if_neg hui]; omega
        · by_cases hui : u.1 = i
          · have := lt_of y hym hyi hly
            rw [if_neg hyi, if_pos hui]; omega
          · rw [if_neg hyi, if_neg hui]
            exact inv.ne y hym u hum hne (old y hym hyi hly) (old u hum hui hlu)
      · intro t ht
        obtain ⟨hne, hno⟩ := hunl t ht
        rw [put_other hne]
        exact inv.other t hno
     | false =>
      have hst : isSt o = true := by unfold isMk at hmk; rw [hal] at hmk; simpa using hmk
      have hmm := hok.alls i o hin ho hst
      rw [List.map_map] at hmm
      obtain ⟨z, hzm, hzi⟩ := List.mem_map.1 hmm
      simp only [Function.comp] at hzi
      obtain ⟨o3, ty, y, ho3, hop, hyd, hdst, hev, hinfo, hsz, hone⟩ := hs z hzm (by omega)
      rw [hzi, ho] at ho3
      obtain rfl := Option.some.inj ho3
      have hkl : listed.getD z.k false = true := waits_listed hi (by have h := hok.wait (z.k, z.j) (List.mem_map.2 ⟨z, hzm, rfl⟩) (by omega); simp only [hzi] at h; exact h)
      obtain ⟨e1, e2, e3⟩ := inv.al z hzm hkl
      have hzl : listed.getD z.j false = false := by rw [hzi]; exact getD_both hiun
      have hx : ar.eval (.tmp z.d) = .pointer (some ⟨ℓ z.k, 0, none⟩) := by
        show ar.tmps.getD z.d undef = _
        rw [Array.getD_eq_getD_getElem?, e1]; rfl
      have hy : ar.eval y = .agg z.cs1 := by
        rw [← hev]
        cases y with
        | tmp t =>
          have ht : t ∈ o.looksAt l.toArray := List.mem_append_left _ (List.mem_filterMap.2 ⟨.tmp t, by rw [hop]; simp [Op.operands], rfl⟩)
          have : ar.tmps[t]? = afin.tmps[t]? := by
            by_cases hwr : ∃ (k : Nat) (o' : Oper), k < n ∧ l.toArray[k]? = some o' ∧ o'.dst = some t
            · obtain ⟨k, o', hk, hok', hd'⟩ := hwr
              obtain ⟨hki, _, hwt⟩ := hok.look i k o o' t hin hk ho hok' hd' hal ht
              have hna : isAl o' = false := by
                cases ha : isAl o' with
                | false => rfl
                | true =>
                  exfalso
                  have hmm := hok.all k o' hk hok' ha
                  rw [List.map_map] at hmm
                  obtain ⟨y, hym, hyk⟩ := List.mem_map.1 hmm
                  simp only [Function.comp] at hyk
                  obtain ⟨_, _, o4, ho4, _, hd4, _⟩ := hz y hym
                  rw [hyk, hok'] at ho4
                  obtain rfl := Option.some.inj ho4
                  rw [hd'] at hd4
                  exact hyd t rfl (List.mem_map.2 ⟨y, hym, (Option.some.inj hd4).symm⟩)
              exact inv.q k o' t hk hok' hna (waits_listed hi hwt) hd'
            · rw [inv.other t fun k o' hk hok' hd' => absurd ⟨k, o', hk, hok', hd'⟩ hwr, hf.2.2 t]
              intro o2 ho2 hd2
              obtain ⟨k, hk, ho', _⟩ := mem_head ho2
              exact hwr ⟨k, o2, hk, ho', hd2⟩
          simp only [Act.eval, Array.getD_eq_getD_getElem?, this]
        | _ => rfl
      have e2' : Blk x (ℓ z.k) z.T z.cs0 := by rw [hzl] at e2; exact e2
      unfold wpOp
      simp only [ho]
      rw [if_pos hg]
      refine .inl (wp_store_row ty _ _ hop (ℓ z.k) z.cs1 hx hy z.T z.cs0 e2' hinfo hsz hone ?_)
      have put0 : ar.put o.dst undef = ar := by rw [hdst]; rfl
      rw [put0]
      have noti : ∀ y ∈ zs, y.k ≠ i := fun y hym e => by
        obtain ⟨_, _, o4, ho4, ha4, _⟩ := hz y hym
        rw [e, ho] at ho4
        obtain rfl := Option.some.inj ho4
        rw [hal] at ha4; cases ha4
      have old : ∀ y ∈ zs, (listed.setIfInBounds i true).getD y.k false = true → listed.getD y.k false = true := fun y hym hl => by
        rwa [getD_set_ne false (Ne.symm (noti y hym))] at hl
      refine ih _ _ _ ℓ ⟨inv.hd.set hi hin, below_setRow inv.bel e3 _, inv.size, inv.defs, ?_, ?_, ?_, ?_⟩ hcount
      · intro k o' d hk hk' hna hl hd'
        have hki : k ≠ i := fun e => by
          subst e
          rw [ho] at hk'
          obtain rfl := Option.some.inj hk'
          rw [hdst] at hd'; cases hd'
        rw [getD_set_ne false (Ne.symm hki)] at hl
        exact inv.q k o' d hk hk' hna hl hd'
      · intro y hym hl
        obtain ⟨f1, f2, f3⟩ := inv.al y hym (old y hym hl)
        by_cases hyj : y.j = i
        · obtain rfl := same_of (·.j) hnj z hzm y hym (hzi.trans hyj.symm)
          refine ⟨f1, ?_, f3⟩
          rw [hyj, hself]
          exact Blk.setRow e2' _
        · rw [getD_set_ne false (Ne.symm hyj)]
          have hkk : y.k ≠ z.k := fun e => by
            obtain rfl := same_of (·.k) hn1 z hzm y hym e.symm
            exact hyj hzi
          exact ⟨f1, Blk.farRow (W := x) f2 (inv.ne y hym z hzm hkk (old y hym hl) hkl) _, f3⟩
      · intro y hym u hum hne hly hlu
        exact inv.ne y hym u hum hne (old y hym hly) (old u hum hlu)
      · intro t ht
        exact inv.other t (hunl t ht).2
/-- A drawn region with a quiet head that makes variables, and a tail in its order. -/
theorem wp_region_fresh {id : Nat} (n : Nat) (zs : List Let) (hm : P.follows .mixedOrders = true) (hB : freshB l.toArray n (zs.map fun z => (z.k, z.j)) = true) (hnd : (zs.map (·.d)).Nodup) (hn1 : (zs.map (·.k)).Nodup) (hnj : (zs.map (·.j)).Nodup) (hjn : ∀ z ∈ zs, z.j < l.toArray.size)
    (hz : ∀ z ∈ zs, z.k < n ∧ z.d < a.tmps.size ∧ ∃ o, l.toArray[z.k]? = some o ∧ isAl o = true ∧ o.dst = some z.d ∧ ∀ ev x, (execOp ev o).run P x = .ok (.value (ptrTo x.heap.size)) (x.alloc (z.at_ false)))
    (h1 : ∀ u, Below w.heap.size w u → wpQuiet P l.toArray (fun x => ∃ m : Ext u u.heap.size, x = m.val) (fun a' => a' = afin) ((l.take n).filter (fun o => !isMk o)) a)
    (hs : ∀ z ∈ zs, StOk P l.toArray n zs afin z)
    (h2 : ∀ ℓ x, LetFacts n w zs ℓ x → wpList P l.toArray Q (l.drop n) (lay zs ℓ afin) x) : (Code.region id l.toArray true).wp P Q a w := by
  have hok := freshB_spec hB
  refine wp_region_any hm ?_
  have inv : HInv l.toArray n a afin w zs (Array.replicate l.toArray.size false) a { w with drawn := w.drawn + 1 } (fun _ => 0) := by
    refine ⟨⟨by simp, fun j oj _ hl => (by rw [getD_replicate_false] at hl; cases hl), fun t _ ht => getD_in (by simpa using ht) (getD_replicate_false _ _)⟩, (Below.refl _ w).drew, rfl, rfl, ?_, ?_, ?_, fun _ _ => rfl⟩
    · intro k o d _ _ _ hl; rw [getD_replicate_false] at hl; cases hl
    · intro z _ hl; rw [getD_replicate_false] at hl; cases hl
    · intro z _ y _ _ hl; rw [getD_replicate_false] at hl; cases hl
  have hc : (List.range n).countP (fun i => !(Array.replicate l.toArray.size false).getD i true) = n := by
    rw [List.countP_eq_length.2 ?_, List.length_range]
    intro i hi
    have h1 := List.mem_range.1 hi
    have h2 := hok.lt
    rw [getD_in (by rw [Array.size_replicate]; omega) (getD_replicate_false _ _)]; rfl
  have h := fresh_run hok hnd hn1 hnj hjn hz h1 hs h2 n _ _ _ _ inv hc
  rwa [show n + (l.toArray.size - n) = l.toArray.size by have := hok.lt; omega] at h
end
end Go.Proofs.Ythbagegkcpblgaa
