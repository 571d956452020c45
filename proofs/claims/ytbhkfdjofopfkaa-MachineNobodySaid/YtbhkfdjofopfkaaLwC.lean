/- A machine that nobody made does nothing: the walk of the law. -/
import Derived.Test.YtbhkfdjofopfkaaMaO
namespace Go.Proofs.Ytbhkfdjofopfkaa.MemA
open Go.RowKit Go.Proofs.YtbhkfdjofopfkaaW.PrintWords Go.Proofs.YtbhkfdjofopfkaaW.PrintLast
set_option linter.unusedVariables false
set_option linter.unusedSimpArgs false
/-- Nobody's machine. -/
def No (p : Value) (w : World) : Prop := Calls Try.prog 31 #[p] w fun e w' => e = .returned (.bool false) ∧ w = w'
set_option maxHeartbeats 4000000 in
set_option maxRecDepth 100000 in
theorem no_ended {w : World} {p : Value} (hi : Aside0 (No p w)) : Calls Try.prog 17 #[p] w fun e w' => e = .returned (.bool false) ∧ w = w' := by
  unfold No at hi
  go_enter Try.func17, Try.ntmps17
  go_wp2_with ((with_reducible refine hi.out.mono ?_); rintro e w' ⟨rfl, rfl⟩)
  go_ret
  exact ⟨rfl, rfl⟩
set_option maxHeartbeats 4000000 in
set_option maxRecDepth 100000 in
theorem no_pc {w : World} {p : Value} (hi : Aside0 (No p w)) : Calls Try.prog 19 #[p] w fun e w' => e = .returned (.int .i64 0) ∧ w = w' := by
  unfold No at hi
  go_enter Try.func19, Try.ntmps19
  go_wp2_with ((with_reducible refine hi.out.mono ?_); rintro e w' ⟨rfl, rfl⟩)
  go_ret
  exact ⟨rfl, rfl⟩
set_option maxHeartbeats 4000000 in
set_option maxRecDepth 100000 in
theorem no_memory {w : World} {p : Value} (hi : Aside0 (No p w)) : Calls Try.prog 20 #[p] w fun e w' => e = .returned (.pointer none) ∧ w = w' := by
  unfold No at hi
  go_enter Try.func20, Try.ntmps20
  go_wp2_with ((with_reducible refine hi.out.mono ?_); rintro e w' ⟨rfl, rfl⟩)
  go_ret
  exact ⟨rfl, rfl⟩
set_option maxHeartbeats 4000000 in
set_option maxRecDepth 100000 in
theorem no_reg {w : World} {p : Value} (hi : Aside0 (No p w)) (r : Int) : Calls Try.prog 16 #[p, .int .i64 r] w fun e w' => e = .returned (.int .u32 0) ∧ w = w' := by
  unfold No at hi
  go_enter Try.func16, Try.ntmps16
  go_wp2_with ((with_reducible refine hi.out.mono ?_); rintro e w' ⟨rfl, rfl⟩)
  go_ret
  exact ⟨rfl, rfl⟩
set_option maxHeartbeats 8000000 in
set_option maxRecDepth 100000 in
theorem no_end {w : World} {p : Value} (hi : ∀ W, Below w.heap.size w W → Aside0 (No p W)) : Calls Try.prog 18 #[p] w fun e w' => e = .returned (.agg #[.int .i64 0, .int .i32 0, .int .i64 0, .string ⟨#[]⟩, .int .i64 0]) ∧ Below w.heap.size w w' := by
  have hb1 : Aside0 (Below w.heap.size w (w.alloc (.cells #[.int .i64 0, .int .i32 0, .int .i64 0, .string ⟨#[]⟩, .int .i64 0] 25))) := ⟨below_alloc (Below.refl _ _) _⟩
  have hr1 : Aside0 ((w.alloc (.cells #[.int .i64 0, .int .i32 0, .int .i64 0, .string ⟨#[]⟩, .int .i64 0] 25)).heap[w.heap.size]? = some (.cells #[.int .i64 0, .int .i32 0, .int .i64 0, .string ⟨#[]⟩, .int .i64 0] 25 (0, 0))) := ⟨blk_new w _⟩
  have hi1 := Aside0.mk (hi _ hb1.out)
  unfold No at hi1
  clear hi
  go_enter Try.func18, Try.ntmps18
  go_upto_region 1 with (fail)
  generalize w.alloc (.cells #[.int .i64 0, .int .i32 0, .int .i64 0, .string ⟨#[]⟩, .int .i64 0] 25) = W1 at *
  obtain ⟨z0, z1, z2, z3, z4, zf⟩ := zs_of hr1.out
  have f0 := zf 0
  have f1 := zf 1
  have f2 := zf 2
  have f3 := zf 3
  have f4 := zf 4
  clear zf
  go_wp2_with ((with_reducible refine hi1.out.out.mono ?_); rintro e w' ⟨rfl, rfl⟩)
  exact bodyPost_ret (results_cell_row rfl _ _ w.heap.size 25 #[.int .i64 0, .int .i32 0, .int .i64 0, .string ⟨#[]⟩, .int .i64 0] (0, 0) _ rfl (end_put hr1.out 0 0 0 ⟨#[]⟩ 0) Try.underlying25 rfl (by kernel_rfl)) rfl ⟨rfl, below_set (below_set (below_set (below_set (below_set hb1.out (Nat.le_refl _)) (Nat.le_refl _)) (Nat.le_refl _)) (Nat.le_refl _)) (Nat.le_refl _)⟩
def cells0 : Array Value := #[.string ⟨#[]⟩, .string ⟨#[]⟩, .int .i64 0, .int .i64 0, .int .i64 0, .pointer none, .int .u32 0, .int .u32 0, .int .u32 0, .int .u32 0, .int .u32 0, .int .u32 0, .int .u32 0, .int .u32 0, .int .u32 0, .int .u32 0, .int .u32 0, .int .u32 0, .int .u32 0, .int .u32 0, .int .u32 0, .int .u32 0, .int .i64 0, .string ⟨#[]⟩, .int .i64 0, .slice none 0 0, .bool false, .int .i64 0, .int .i32 0, .int .i64 0, .string ⟨#[]⟩, .int .i64 0, .bool false]
theorem no_fresh (w : World) : ∀ W, Below (w.heap.size + 1) (w.alloc (.cells cells0 48)) W → No (PM w.heap.size) W := fun W hb =>
  is_empty ((blk_cell ((hb.block _ (Nat.lt_succ_self _)).trans (blk_new w (.cells cells0 48))) 32).trans (by rfl))
set_option maxHeartbeats 8000000 in
set_option maxRecDepth 100000 in
theorem nobody (n : Int) (w : World) : Calls Try.prog 7 #[.int .i64 n] w fun e w' => e = .returned (.bool true) ∧ Below w.heap.size w w' := by
  go_enter Try.func7, Try.ntmps7
  go_wp2_with fail
  go_loopw [3] (fun i wr => ∃ k : Nat, i = .int .i64 k ∧ k ≤ 2 ∧ Aside0 (Below w.heap.size w wr)) (fun i _ => 2 - (intOf i).toNat)
  case atStart => exact ⟨0, rfl, Nat.zero_le _, ⟨Below.refl _ _⟩⟩
  case round =>
    obtain ⟨k, rfl, hk, hW⟩ := hrel
    have : k = 0 ∨ k = 1 ∨ k = 2 := by omega
    rcases this with rfl | rfl | rfl
    · rename_i wr
      have hN : ∀ W, Aside0 (No (.pointer none) W) := fun W => ⟨is_nil W⟩
      have h1 := Aside0.mk (step_nil (hN wr))
      have h2 := Aside0.mk (no_ended (hN wr))
      have h3 := Aside0.mk (no_end (w := wr) (fun W _ => hN W))
      have h4 := fun W => Aside0.mk (no_pc (hN W))
      have h5 := fun W => Aside0.mk (no_reg (hN W) n)
      have h6 := fun W => Aside0.mk (no_memory (hN W))
      go_wp2_with first | (go_at_call 15; (with_reducible refine h1.out.mono ?_); rintro e w' ⟨rfl, rfl⟩) | (go_at_call 17; (with_reducible refine h2.out.mono ?_); rintro e w' ⟨rfl, rfl⟩) | (go_at_call 18; (with_reducible refine h3.out.mono ?_); rintro e w1 ⟨rfl, hb1⟩; replace hb1 := Aside0.mk hb1) | (go_at_call 19; (with_reducible refine (h4 _).out.mono ?_); rintro e w' ⟨rfl, rfl⟩) | (go_at_call 16; (with_reducible refine (h5 _).out.mono ?_); rintro e w' ⟨rfl, rfl⟩) | (go_at_call 20; (with_reducible refine (h6 _).out.mono ?_); rintro e w' ⟨rfl, rfl⟩)
      go_roundw
      case rel => exact ⟨1, by rfl, by omega, ⟨below_step hW.out hb1.out⟩⟩
      case measure => simp [intOf]
    · rename_i wr
      have hN : ∀ W, Below (wr.heap.size + 1) (wr.alloc (.cells #[.string ⟨#[]⟩, .string ⟨#[]⟩, .int .i64 0, .int .i64 0, .int .i64 0, .pointer none, .int .u32 0, .int .u32 0, .int .u32 0, .int .u32 0, .int .u32 0, .int .u32 0, .int .u32 0, .int .u32 0, .int .u32 0, .int .u32 0, .int .u32 0, .int .u32 0, .int .u32 0, .int .u32 0, .int .u32 0, .int .u32 0, .int .i64 0, .string ⟨#[]⟩, .int .i64 0, .slice none 0 0, .bool false, .int .i64 0, .int .i32 0, .int .i64 0, .string ⟨#[]⟩, .int .i64 0, .bool false] 48)) W → Aside0 (No (PM wr.heap.size) W) := fun W h => ⟨no_fresh wr W h⟩
      have hN0 := hN _ (Below.refl _ _)
      have hbA : Aside0 (Below w.heap.size w (wr.alloc (.cells #[.string ⟨#[]⟩, .string ⟨#[]⟩, .int .i64 0, .int .i64 0, .int .i64 0, .pointer none, .int .u32 0, .int .u32 0, .int .u32 0, .int .u32 0, .int .u32 0, .int .u32 0, .int .u32 0, .int .u32 0, .int .u32 0, .int .u32 0, .int .u32 0, .int .u32 0, .int .u32 0, .int .u32 0, .int .u32 0, .int .u32 0, .int .i64 0, .string ⟨#[]⟩, .int .i64 0, .slice none 0 0, .bool false, .int .i64 0, .int .i32 0, .int .i64 0, .string ⟨#[]⟩, .int .i64 0, .bool false] 48))) := ⟨below_alloc hW.out _⟩
      have hsz : Aside0 ((wr.alloc (.cells #[.string ⟨#[]⟩, .string ⟨#[]⟩, .int .i64 0, .int .i64 0, .int .i64 0, .pointer none, .int .u32 0, .int .u32 0, .int .u32 0, .int .u32 0, .int .u32 0, .int .u32 0, .int .u32 0, .int .u32 0, .int .u32 0, .int .u32 0, .int .u32 0, .int .u32 0, .int .u32 0, .int .u32 0, .int .u32 0, .int .u32 0, .int .i64 0, .string ⟨#[]⟩, .int .i64 0, .slice none 0 0, .bool false, .int .i64 0, .int .i32 0, .int .i64 0, .string ⟨#[]⟩, .int .i64 0, .bool false] 48)).heap.size = wr.heap.size + 1) := ⟨by simp⟩
      go_upto_region 7 with (fail)
      generalize wr.alloc (.cells #[.string ⟨#[]⟩, .string ⟨#[]⟩, .int .i64 0, .int .i64 0, .int .i64 0, .pointer none, .int .u32 0, .int .u32 0, .int .u32 0, .int .u32 0, .int .u32 0, .int .u32 0, .int .u32 0, .int .u32 0, .int .u32 0, .int .u32 0, .int .u32 0, .int .u32 0, .int .u32 0, .int .u32 0, .int .u32 0, .int .u32 0, .int .i64 0, .string ⟨#[]⟩, .int .i64 0, .slice none 0 0, .bool false, .int .i64 0, .int .i32 0, .int .i64 0, .string ⟨#[]⟩, .int .i64 0, .bool false] 48) = W at *
      generalize wr.heap.size = g at *
      have h1 := Aside0.mk (step_nil hN0)
      have h2 := Aside0.mk (no_ended hN0)
      have h3 := Aside0.mk (no_end (w := W) (fun W' hb => hN W' (by rw [hsz.out] at hb; exact hb)))
      have h4 := fun W' hb => Aside0.mk (no_pc (hN W' hb))
      have h5 := fun W' hb => Aside0.mk (no_reg (hN W' hb) n)
      have h6 := fun W' hb => Aside0.mk (no_memory (hN W' hb))
      clear hN
      go_wp2_with first | (go_at_call 15; (with_reducible refine h1.out.mono ?_); rintro e w' ⟨rfl, rfl⟩) | (go_at_call 17; (with_reducible refine h2.out.mono ?_); rintro e w' ⟨rfl, rfl⟩) | (go_at_call 18; (with_reducible refine h3.out.mono ?_); rintro e w1 ⟨rfl, hb1⟩; have hB1 := Aside0.mk (below_step hbA.out hb1); rw [hsz.out] at hb1; replace hb1 := Aside0.mk hb1) | (go_at_call 19; (with_reducible refine (h4 _ hb1.out).out.mono ?_); rintro e w' ⟨rfl, rfl⟩) | (go_at_call 16; (with_reducible refine (h5 _ hb1.out).out.mono ?_); rintro e w' ⟨rfl, rfl⟩) | (go_at_call 20; (with_reducible refine (h6 _ hb1.out).out.mono ?_); rintro e w' ⟨rfl, rfl⟩)
      go_roundw
      case rel => exact ⟨2, by rfl, by omega, hB1⟩
      case measure => simp [intOf]
    · go_wp2_with (go_at_call 11; (with_reducible refine (awake _).mono ?_); rintro e' w5 ⟨rfl, hb5⟩; replace hb5 := Aside0.mk hb5)
      go_ret
      exact ⟨rfl, below_step hW.out hb5.out⟩
end Go.Proofs.Ytbhkfdjofopfkaa.MemA
