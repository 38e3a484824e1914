/- EdgeFunctions returns true for every three points. -/
import Derived.Test.YtmcemnhhmlnfcaaEEx
import Derived.Test.YtmcemnhhmlnfcaaRAcc
namespace Go.Proofs.Ytmcemnhhmlnfcaa
open Go.RowKit
attribute [local go_sem] Ext.cell
theorem rFunction_at (ax ay bx by' px py : Int) (w : World) (v : Int) (h : efI ax ay bx by' px py = v) :
    Calls Try.prog 15 #[.int .i64 ax, .int .i64 ay, .int .i64 bx, .int .i64 by', .int .i64 px, .int .i64 py] w fun e w' => e = .returned (.int .i64 v) ∧ w = w' := h ▸ rFunction_any _ _ _ _ _ _ _
theorem rTopLeft_at (ax ay bx by' : Int) (w : World) (v : Bool) (h : tlB ax ay bx by' = v) :
    Calls Try.prog 16 #[.int .i64 ax, .int .i64 ay, .int .i64 bx, .int .i64 by'] w fun e w' => e = .returned (.bool v) ∧ w = w' := h ▸ rTopLeft_any _ _ _ _ _
theorem rAccepts_at (ax ay bx by' px py : Int) (w : World) (v : Bool) (h : accB ax ay bx by' px py = v) :
    Calls Try.prog 17 #[.int .i64 ax, .int .i64 ay, .int .i64 bx, .int .i64 by', .int .i64 px, .int .i64 py] w fun e w' => e = .returned (.bool v) ∧ w = w' := h ▸ rAccepts_any _ _ _ _ _ _ _
set_option maxHeartbeats 8000000 in
theorem law_edgeFunctions (ax ay bx by' px py : Int) (w : World) :
    Calls Try.prog 4 #[.agg #[.int .i64 ax, .int .i64 ay], .agg #[.int .i64 bx, .int .i64 by'], .agg #[.int .i64 px, .int .i64 py]] w fun e w' => e = .returned (.bool true) ∧ Below w.heap.size w w' := by
  obtain ⟨f, hf⟩ : ∃ f, efI ax ay bx by' px py = f := ⟨_, rfl⟩
  obtain ⟨t, ht⟩ : ∃ t, tlB ax ay bx by' = t := ⟨_, rfl⟩
  obtain ⟨b, hbb⟩ : ∃ b, accB ax ay bx by' px py = b := ⟨_, rfl⟩
  have hf := Lib.hid hf
  have ht := Lib.hid ht
  have hbb := Lib.hid hbb
  have e1 : (f == f) = true := by simp
  have e2 : (t == t) = true := by simp
  have e3 : (b == b) = true := by simp
  go_enter Try.func4, Try.ntmps4
  have k0 := Lib.hid (((Blk.new w 22 #[.int .i64 ax, .int .i64 ay]).alloc (.cells #[.int .i64 bx, .int .i64 by'] 22)).alloc (.cells #[.int .i64 px, .int .i64 py] 22))
  have k1 := Lib.hid ((Blk.new1 w 22 #[.int .i64 bx, .int .i64 by'] (.cells #[.int .i64 ax, .int .i64 ay] 22)).alloc (.cells #[.int .i64 px, .int .i64 py] 22))
  have k2 := Lib.hid (Blk.new2 w 22 #[.int .i64 px, .int .i64 py] (.cells #[.int .i64 ax, .int .i64 ay] 22) (.cells #[.int .i64 bx, .int .i64 by'] 22))
  have hB : Hid (Below w.heap.size w (((w.alloc (.cells #[.int .i64 ax, .int .i64 ay] 22)).alloc (.cells #[.int .i64 bx, .int .i64 by'] 22)).alloc (.cells #[.int .i64 px, .int .i64 py] 22))) := Lib.hid (by go_grown)
  go_wp2_with fail
  generalize ((w.alloc (.cells #[.int .i64 ax, .int .i64 ay] 22)).alloc (.cells #[.int .i64 bx, .int .i64 by'] 22)).alloc (.cells #[.int .i64 px, .int .i64 py] 22) = W0 at *
  have c0 := k0.out.cell
  have c1 := k1.out.cell
  have c2 := k2.out.cell
  have l0 := k0.out.lt
  have l1 := k1.out.lt
  have l2 := k2.out.lt
  refine wp_region_ext (W0.heap.size) (by kernel_rfl) (by kernel_rfl) ?_
  dsimp only [List.append]
  repeat (go_big_quiet_step (first | (go_at_call 10; exact ext_same (function_at _ _ _ _ _ _ _ _ hf.out)) | (go_at_call 15; exact ext_same (rFunction_at _ _ _ _ _ _ _ _ hf.out)) | (go_at_call 14; exact ext_same (topLeft_at _ _ _ _ _ _ ht.out)) | (go_at_call 16; exact ext_same (rTopLeft_at _ _ _ _ _ _ ht.out)) | (go_at_call 11; exact ext_same (accepts_at _ _ _ _ _ _ _ _ hbb.out)) | (go_at_call 17; exact ext_same (rAccepts_at _ _ _ _ _ _ _ _ hbb.out)) | (go_at_call 13; exact ext_call (Nat.le_refl _) (example_true _))))
  refine wpQuiet_nil ?_
  intro W1L hwx
  obtain ⟨⟨W1L, hb⟩, rfl⟩ := hwx
  have hB1 := Lib.hid (below_on hB.out (by assumption))
  go_wp2
  go_ret
  exact ⟨rfl, hB1.out⟩
end Go.Proofs.Ytmcemnhhmlnfcaa
