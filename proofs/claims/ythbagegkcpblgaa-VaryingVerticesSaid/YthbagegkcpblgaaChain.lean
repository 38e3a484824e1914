/- A region that draws its order, in which what is not quiet (calls, stores, appends) comes in one order: runs of quiet operations are walked as one, each other operation alone. No function of the program is walked here. -/
import Derived.Test.YthbagegkcpblgaaFresh
import Derived.OrdersHeld
import Derived.Deep.RegionHeld
namespace Go.Proofs.Ythbagegkcpblgaa
open Go.RowKit
section
variable {P : Program} {ops : Array Oper} {Q : Exit → Act → World → Prop} {md : Region.Mode} {S : World → Prop}
/-- The marks behind these operations. -/
def heldAfter (l : Array Bool) : List Nat → Array Bool
  | [] => l
  | i :: is => heldAfter (l.setIfInBounds i true) is
/-- These operations may be taken first, one after the other. -/
def heldOk (md : Region.Mode) (ops : Array Oper) (l : Array Bool) : List Nat → Bool
  | [] => true
  | i :: is => Region.free md ops l i && (Region.ready md ops l).contains i && heldOk md ops (l.setIfInBounds i true) is
/-- An operation that gives a value, and enters nothing. -/
def givesB (o : Oper) : Bool :=
  match o.op with
  | .move _ | .assign _ | .pick .. | .build .. | .load .. | .binOp .. | .unOp .. | .fieldAddr .. | .indexAddr .. | .extract .. | .slice .. => true
  | .call c => match c.callee with | .builtin .len | .builtin .max | .builtin .min => true | _ => false
  | _ => false
theorem value_of_bind {w w' : World} {s : Sem Value} {r : Next} (h : (do pure (Next.value (← s)) : Sem Next).run P w = .ok r w') : ∃ v, r = .value v := by
  rw [Sem.run_bind] at h
  cases hs : s.run P w with
  | ok v w1 => rw [hs] at h; simp only [Result.andThen_ok, Sem.run_pure, Result.ok.injEq] at h; exact ⟨v, h.1.symm⟩
  | halt e w1 => rw [hs] at h; simp [Result.andThen] at h
theorem value_of_bind2 {w w' : World} {s : Sem Bool} {x y : Value} {r : Next} (h : (do pure (Next.value (if ← s then x else y)) : Sem Next).run P w = .ok r w') : ∃ v, r = .value v := by
  rw [Sem.run_bind] at h
  cases hs : s.run P w with
  | ok v w1 => rw [hs] at h; simp only [Result.andThen_ok, Sem.run_pure, Result.ok.injEq] at h; exact ⟨_, h.1.symm⟩
  | halt e w1 => rw [hs] at h; simp [Result.andThen] at h
theorem gives_value {o : Oper} (hv : givesB o = true) {ev : Operand → Value} {w w' : World} {r : Next} (h : (execOp ev o).run P w = .ok r w') : ∃ v, r = .value v := by
  unfold givesB at hv
  unfold execOp at h
  cases ho : o.op with
  | move x => rw [ho] at h; simp only [Sem.run_pure, Result.ok.injEq] at h; exact ⟨_, h.1.symm⟩
  | assign x => rw [ho] at h; simp only [Sem.run_pure, Result.ok.injEq] at h; exact ⟨_, h.1.symm⟩
  | pick c a b => rw [ho] at h; exact value_of_bind2 h
  | build t parts => rw [ho] at h; exact value_of_bind h
  | load t a => rw [ho] at h; exact value_of_bind h
  | binOp op t x y u => rw [ho] at h; exact value_of_bind h
  | unOp op t x => rw [ho] at h; exact value_of_bind h
  | fieldAddr s x f => rw [ho] at h; exact value_of_bind h
  | indexAddr t x i => rw [ho] at h; exact value_of_bind h
  | extract t i => rw [ho] at h; exact value_of_bind h
  | slice t x lo hi mx => rw [ho] at h; exact value_of_bind h
  | call c =>
    rw [ho] at h hv
    dsimp only at h hv
    cases hc : c.callee with
    | builtin b =>
      rw [hc] at hv
      rw [Sem.run_bind] at h
      unfold resolve at h
      rw [hc] at h
      simp only [Sem.run_pure, Result.andThen_ok] at h
      unfold invoke builtin at h
      cases b <;> first | (simp at hv; done) | exact value_of_bind h
    | invoke r n => rw [hc] at hv; simp at hv
    | value f => rw [hc] at hv; simp at hv
  | _ => rw [ho] at hv; simp at hv
theorem yields_of_quiet {o : Oper} {a : Act} {v : Value} (hv : givesB o = true) {w : World} (h : o.quietAt P a S w v) : (execOp a.eval o).run P w = .ok (.value v) w := by
  unfold Oper.quietAt at h
  cases hr : (execOp a.eval o).run P w with
  | ok r w' =>
    obtain ⟨u, rfl⟩ := gives_value hv hr
    rw [hr] at h
    obtain ⟨rfl, rfl⟩ := h
    rfl
  | halt e w' => rw [hr] at h; exact h.elim
theorem held_quiets (hQ : ∀ (c : List PanicEntry) (a : Act) (d : Option Tmp) (v : Value) (w : World), Q (.panic c) (a.put d v) w → Q (.panic c) a w) (hs : Region.noSelect ops = true) {w : World} (hS : S w) :
    ∀ (is : List Nat) (l : Array Bool) (F : Nat) (a : Act), heldOk md ops l is = true → (is.filterMap (ops[·]?)).all givesB = true → is.length ≤ F →
      wpQuiet P ops S (fun a' => wpAnyH P md ops Q S (F - is.length) (heldAfter l is) a' w) (is.filterMap (ops[·]?)) a → wpAnyH P md ops Q S F l a w
  | [], l, F, a, _, _, _, h => h
  | i :: is, l, F, a, hok, hg, hF, h => by
    unfold heldOk at hok
    simp only [Bool.and_eq_true] at hok
    obtain ⟨⟨hf, hr⟩, hok⟩ := hok
    obtain ⟨G, rfl⟩ : ∃ G, F = G + 1 := ⟨F - 1, by simp at hF; omega⟩
    have hi : i < ops.size := by
      have := hf
      unfold Region.free at this
      rcases Nat.lt_or_ge i ops.size with hlt | hge
      · exact hlt
      · rw [Array.getElem?_eq_none hge] at this; simp at this
    have ho : ops[i]? = some ops[i] := by simp [hi]
    rw [List.filterMap_cons_some ho] at hg h
    simp only [List.all_cons, Bool.and_eq_true] at hg
    obtain ⟨hg0, hg⟩ := hg
    unfold wpQuiet at h
    have e : G + 1 - (i :: is).length = G - is.length := by simp
    rw [e] at h
    have hF' : is.length ≤ G := by simp at hF; omega
    by_cases hw : Region.wanted ops[i] (yielded ops a.tmps) = true
    · rw [if_pos hw] at h
      obtain ⟨v, hq, hn⟩ := h
      exact wpAnyH_take ho hs hf hr (fun c a w => hQ c a _ _ w) (.inl ⟨hw, fun w' hw' => yields_of_quiet hg0 (hq w' hw')⟩) hS (held_quiets hQ hs hS is _ G _ hok hg hF' hn)
    · rw [if_neg hw] at h
      exact wpAnyH_take ho hs hf hr (fun c a w => hQ c a _ _ w) (.inr ⟨by simpa using hw, rfl⟩) hS (held_quiets hQ hs hS is _ G _ hok hg hF' h)
/-- The one operation that may come up now. -/
theorem held_heavy {i : Nat} {o : Oper} {F : Nat} {l : Array Bool} {a : Act} {w : World} (hr : Region.ready md ops l = [i]) (ho : ops[i]? = some o) (hw : Region.wanted o (yielded ops a.tmps) = true) (hF : 0 < F)
    (h : ∀ K : Act → World → Prop, (∀ a' w', S w' → wpAnyH P md ops Q S (F - 1) (l.setIfInBounds i true) a' w' → K a' w') → Oper.wp P o a w K Q) : wpAnyH P md ops Q S F l a w := by
  obtain ⟨G, rfl⟩ : ∃ G, F = G + 1 := ⟨F - 1, by omega⟩
  refine wpAnyH_all hr (by simp) fun j hj => ?_
  obtain rfl := List.mem_singleton.1 hj
  refine wpOp_step ho fun K hK => ?_
  rw [if_pos hw]
  exact h K fun a' w' h1 h2 => hK a' w' ⟨h1, h2⟩
theorem oper_call {o : Oper} {a : Act} {w : World} {K : Act → World → Prop} {f : FuncId} {args : Array Operand} {ats : Array TypeId} (ho : o.op = .call { callee := .value (.func f), args := args, argTypes := ats })
    (hc : ∀ (ev : Operand → Value) (w : World), (execOp ev { o with op := .call { callee := .value (.func f), args := args, argTypes := ats } }).run P w = .ok (.enter f (args.map ev)) w)
    (h : Calls P f (args.map a.eval) w fun e w' => ∃ v, e = .returned v ∧ K (a.put o.dst v) w') : o.wp P a w K Q := by
  have e : o = { o with op := .call { callee := .value (.func f), args := args, argTypes := ats } } := by rw [← ho]
  unfold Oper.wp
  rw [e, hc]
  exact h.mono fun e w' ⟨v, he, hk⟩ => by subst he; exact hk
end
end Go.Proofs.Ythbagegkcpblgaa
