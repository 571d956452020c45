/- The checker's table of shapes. -/
import Derived.Test.YtidhkicpandmbaaIrB
namespace Go.Proofs.Ytidhkicpandmbaa.IrA
open Go.RowKit Go.Proofs.YtidhkicpandmbaaW.PrintWords Go.Proofs.YtidhkicpandmbaaW.PrintLast Go.Proofs.Ytidhkicpandmbaa.GF
set_option linter.unusedVariables false
set_option linter.unusedSimpArgs false

set_option maxHeartbeats 4000000 in
set_option maxRecDepth 100000 in
theorem shape_at (op : Int) (h : op = 1 ∨ op = 2 ∨ op = 3 ∨ op = 4 ∨ op = 5 ∨ op = 6 ∨ op = 7 ∨ op = 8 ∨ op = 9 ∨ op = 10 ∨ op = 11 ∨ op = 12) : ShapeIs op (pt op) := by
  intro w
  rcases h with rfl | rfl | rfl | rfl | rfl | rfl | rfl | rfl | rfl | rfl | rfl | rfl
  all_goals
    go_enter Try.func60, Try.ntmps60
    go_wp2
    exact bodyPost_ret (results_ct rfl _ _ w.heap.size 98 #[.bool _, .int .i64 _, .bool _, .bool _, .bool _, .bool _] (0, 0) _ rfl (blk_new w _) Try.underlying98 rfl (by kernel_rfl)) rfl ⟨rfl, below_alloc (Below.refl _ _) _⟩
set_option maxHeartbeats 4000000 in
set_option maxRecDepth 100000 in
theorem shape_no (op : Int) (h1 : (op == 1) = false) (h2 : (op == 2) = false) (h3 : (op == 3) = false) (h4 : (op == 4) = false) (h5 : (op == 5) = false) (h6 : (op == 6) = false) (h7 : (op == 7) = false) (h8 : (op == 8) = false) (h9 : (op == 9) = false) (h10 : (op == 10) = false) (h11 : (op == 11) = false) (h12 : (op == 12) = false) (w : World) :
    Calls Try.prog 60 #[.int .i64 op] w (RetB (.tuple #[ptv ⟨false, 0, false, false, false, false, false⟩, .bool false]) w) := by
  go_enter Try.func60, Try.ntmps60
  go_wp2
  exact bodyPost_ret (results_ct rfl _ _ w.heap.size 98 #[.bool _, .int .i64 _, .bool _, .bool _, .bool _, .bool _] (0, 0) _ rfl (blk_new w _) Try.underlying98 rfl (by kernel_rfl)) rfl ⟨rfl, below_alloc (Below.refl _ _) _⟩
theorem shape (op : Int) : ShapeIs op (pt op) := by
  by_cases h : op = 1 ∨ op = 2 ∨ op = 3 ∨ op = 4 ∨ op = 5 ∨ op = 6 ∨ op = 7 ∨ op = 8 ∨ op = 9 ∨ op = 10 ∨ op = 11 ∨ op = 12
  · exact shape_at op h
  · intro w
    have e : pt op = ⟨false, 0, false, false, false, false, false⟩ := by
      unfold pt
      rw [if_neg (by omega), if_neg (by omega), if_neg (by omega), if_neg (by omega), if_neg (by omega), if_neg (by omega), if_neg (by omega), if_neg (by omega), if_neg (by omega), if_neg (by omega)]
    rw [e]
    refine shape_no op ?_ ?_ ?_ ?_ ?_ ?_ ?_ ?_ ?_ ?_ ?_ ?_ w <;> simp <;> omega
end Go.Proofs.Ytidhkicpandmbaa.IrA
