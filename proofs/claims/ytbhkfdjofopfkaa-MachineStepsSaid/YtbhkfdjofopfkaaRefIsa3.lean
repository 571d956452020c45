/- The reference of layer 2, on: words' instructions. -/
import Derived.Test.YtbhkfdjofopfkaaRefIsa2
namespace Go.Proofs.Ytbhkfdjofopfkaa.RefIsa
open Go.RowKit Go.Proofs.Ytbhkfdjofopfkaa.PMachineSteps Go.Proofs.Ytbhkfdjofopfkaa.FactsDec Go.Proofs.YtbhkfdjofopfkaaW.PrintWords Go.Proofs.YtbhkfdjofopfkaaW.PrintLast
set_option linter.unusedVariables false
set_option linter.unusedSimpArgs false

set_option maxHeartbeats 8000000 in
set_option maxRecDepth 100000 in
theorem decA (k : Nat) (w v c r1 r2 r3 r4 r5 r6 : Int) (is : Bool) (W : World) (w0 : 0 ≤ w) (w1 : w < 4294967296)
    (hs : Aside0 (crucibleref02_shaped.f k (w / 16777216) = some (true, true, true, 0, false, is)))
    (he : Hid (∀ W, Calls Try.prog 48 #[.agg #[.int .i64 (w / 16777216), .int .i64 (wrap64 (bits .and .u32 (w / 1048576) 15)), .int .i64 (wrap64 (bits .and .u32 (w / 65536) 15)), .int .i64 (wrap64 (bits .and .u32 (w / 4096) 15)), .int .i32 (0)]] W fun e w' => e = .returned (.tuple #[.int .u32 v, .int .i64 c]) ∧ Below W.heap.size W w'))
    (ho : (c = 1 ∧ r1 = 0 ∧ r2 = 0 ∧ r3 = 0 ∧ r4 = 0 ∧ r5 = 0 ∧ r6 = 1) ∨ (c = 0 ∧ (v == w) = false ∧ r1 = 0 ∧ r2 = 0 ∧ r3 = 0 ∧ r4 = 0 ∧ r5 = 0 ∧ r6 = 1) ∨ (c = 0 ∧ (v == w) = true ∧ r1 = w / 16777216 ∧ r2 = wrap64 (bits .and .u32 (w / 1048576) 15) ∧ r3 = wrap64 (bits .and .u32 (w / 65536) 15) ∧ r4 = wrap64 (bits .and .u32 (w / 4096) 15) ∧ r5 = 0 ∧ r6 = 0)) :
    Calls Try.prog 57 #[.int .u32 w] W fun e w' => e = .returned (.tuple #[.agg #[.int .i64 r1, .int .i64 r2, .int .i64 r3, .int .i64 r4, .int .i32 r5], .int .i64 r6]) ∧ Below W.heap.size W w' := by
  rcases ho with ⟨rfl, rfl, rfl, rfl, rfl, rfl, rfl⟩ | ⟨rfl, hv, rfl, rfl, rfl, rfl, rfl, rfl⟩ | ⟨rfl, hv, rfl, rfl, rfl, rfl, rfl, rfl⟩
  all_goals
    go_enter Try.func57, Try.ntmps57
    go_wp2_with fail
    (with_reducible refine (crucibleref02_shaped.calls k (w / 16777216) _ _ _ _ _ _ _ hs.out).mono ?_)
    rintro e W1 ⟨rfl, hb⟩
    obtain ⟨hc, hf⟩ := bcell hb
    have hz1 : W.heap.size + 1 < W1.heap.size := by have := hb.size; simp at this; omega
    have hz : W.heap.size < W1.heap.size := by omega
    have hb1 := Aside0.mk ((below_alloc (below_alloc (Below.refl W.heap.size W) _) _).trans (hb.mono (by simp; omega)))
    have hk1 : Aside0 (W1.heap[W.heap.size]? = some (.cells #[.int .i64 0, .int .i64 0, .int .i64 0, .int .i64 0, .int .i32 0] 67 (0, 0))) := ⟨blk_below (blk_alloc (blk_new W _) _) hb⟩
    clear hb
    go_wp2_with fail
    (with_reducible refine (he.out _).mono ?_)
    rintro e W2 ⟨rfl, hb2⟩
    obtain ⟨hc2, hf2⟩ := bcell hb2
    have hz3 : W1.heap.size < W2.heap.size := by have := hb2.size; simp at this; omega
    have hz4 : W.heap.size + 1 < W2.heap.size := by omega
    have hz5 : W.heap.size < W2.heap.size := by omega
    have hb3 : Aside0 (Below W.heap.size W W2) := ⟨below_then (by repeat (with_reducible first | exact hb1.out | refine below_alloc ?_ _ | refine Below.setCell ?_ (by simp) _)) (by simp; omega) hb2⟩
    have hk : Aside0 (W2.heap[W.heap.size]? = some (.cells #[.int .i64 0, .int .i64 0, .int .i64 0, .int .i64 0, .int .i32 0] 67 (0, 0))) := ⟨blk_below (by repeat (with_reducible first | exact hk1.out | refine blk_alloc ?_ _ | refine blk_far ?_ (by simp) _)) hb2⟩
    clear hb2
    go_wp2
    refine bodyPost_ret (results_ct rfl _ _ W.heap.size 67 #[.int .i64 _, .int .i64 _, .int .i64 _, .int .i64 _, .int .i32 _] (0, 0) _ rfl (blk_put (blk_put (blk_put (blk_put (blk_put hk.out 0 _ rfl) 1 _ rfl) 2 _ rfl) 3 _ rfl) 4 _ rfl) Try.underlying67 rfl (by kernel_rfl)) rfl ⟨rfl, ?_⟩
    repeat (with_reducible first | exact hb3.out | refine below_alloc ?_ _ | refine Below.setCell ?_ (by simp) _)

set_option maxHeartbeats 8000000 in
set_option maxRecDepth 100000 in
theorem decBp (k : Nat) (w v c r1 r2 r3 r4 r5 r6 : Int) (is : Bool) (W : World) (w0 : 0 ≤ w) (w1 : w < 4294967296)
    (hs : Aside0 (crucibleref02_shaped.f k (w / 16777216) = some (true, true, false, 16, true, is)))
    (hn : decide (32768 ≤ wrap64 (bits .and .u32 w 65535)) = false)
    (he : Hid (∀ W, Calls Try.prog 48 #[.agg #[.int .i64 (w / 16777216), .int .i64 (wrap64 (bits .and .u32 (w / 1048576) 15)), .int .i64 (wrap64 (bits .and .u32 (w / 65536) 15)), .int .i64 (0), .int .i32 (wrap32 (wrap64 (bits .and .u32 w 65535)))]] W fun e w' => e = .returned (.tuple #[.int .u32 v, .int .i64 c]) ∧ Below W.heap.size W w'))
    (ho : (c = 1 ∧ r1 = 0 ∧ r2 = 0 ∧ r3 = 0 ∧ r4 = 0 ∧ r5 = 0 ∧ r6 = 1) ∨ (c = 0 ∧ (v == w) = false ∧ r1 = 0 ∧ r2 = 0 ∧ r3 = 0 ∧ r4 = 0 ∧ r5 = 0 ∧ r6 = 1) ∨ (c = 0 ∧ (v == w) = true ∧ r1 = w / 16777216 ∧ r2 = wrap64 (bits .and .u32 (w / 1048576) 15) ∧ r3 = wrap64 (bits .and .u32 (w / 65536) 15) ∧ r4 = 0 ∧ r5 = wrap32 (wrap64 (bits .and .u32 w 65535)) ∧ r6 = 0)) :
    Calls Try.prog 57 #[.int .u32 w] W fun e w' => e = .returned (.tuple #[.agg #[.int .i64 r1, .int .i64 r2, .int .i64 r3, .int .i64 r4, .int .i32 r5], .int .i64 r6]) ∧ Below W.heap.size W w' := by
  rcases ho with ⟨rfl, rfl, rfl, rfl, rfl, rfl, rfl⟩ | ⟨rfl, hv, rfl, rfl, rfl, rfl, rfl, rfl⟩ | ⟨rfl, hv, rfl, rfl, rfl, rfl, rfl, rfl⟩
  all_goals
    go_enter Try.func57, Try.ntmps57
    go_wp2_with fail
    (with_reducible refine (crucibleref02_shaped.calls k (w / 16777216) _ _ _ _ _ _ _ hs.out).mono ?_)
    rintro e W1 ⟨rfl, hb⟩
    obtain ⟨hc, hf⟩ := bcell hb
    have hz1 : W.heap.size + 1 < W1.heap.size := by have := hb.size; simp at this; omega
    have hz : W.heap.size < W1.heap.size := by omega
    have hb1 := Aside0.mk ((below_alloc (below_alloc (Below.refl W.heap.size W) _) _).trans (hb.mono (by simp; omega)))
    have hk1 : Aside0 (W1.heap[W.heap.size]? = some (.cells #[.int .i64 0, .int .i64 0, .int .i64 0, .int .i64 0, .int .i32 0] 67 (0, 0))) := ⟨blk_below (blk_alloc (blk_new W _) _) hb⟩
    clear hb
    go_wp2_with fail
    (with_reducible refine (he.out _).mono ?_)
    rintro e W2 ⟨rfl, hb2⟩
    obtain ⟨hc2, hf2⟩ := bcell hb2
    have hz3 : W1.heap.size < W2.heap.size := by have := hb2.size; simp at this; omega
    have hz4 : W.heap.size + 1 < W2.heap.size := by omega
    have hz5 : W.heap.size < W2.heap.size := by omega
    have hb3 : Aside0 (Below W.heap.size W W2) := ⟨below_then (by repeat (with_reducible first | exact hb1.out | refine below_alloc ?_ _ | refine Below.setCell ?_ (by simp) _)) (by simp; omega) hb2⟩
    have hk : Aside0 (W2.heap[W.heap.size]? = some (.cells #[.int .i64 0, .int .i64 0, .int .i64 0, .int .i64 0, .int .i32 0] 67 (0, 0))) := ⟨blk_below (by repeat (with_reducible first | exact hk1.out | refine blk_alloc ?_ _ | refine blk_far ?_ (by simp) _)) hb2⟩
    clear hb2
    go_wp2
    refine bodyPost_ret (results_ct rfl _ _ W.heap.size 67 #[.int .i64 _, .int .i64 _, .int .i64 _, .int .i64 _, .int .i32 _] (0, 0) _ rfl (blk_put (blk_put (blk_put (blk_put (blk_put hk.out 0 _ rfl) 1 _ rfl) 2 _ rfl) 3 _ rfl) 4 _ rfl) Try.underlying67 rfl (by kernel_rfl)) rfl ⟨rfl, ?_⟩
    repeat (with_reducible first | exact hb3.out | refine below_alloc ?_ _ | refine Below.setCell ?_ (by simp) _)

set_option maxHeartbeats 8000000 in
set_option maxRecDepth 100000 in
theorem decBn (k : Nat) (w v c r1 r2 r3 r4 r5 r6 : Int) (is : Bool) (W : World) (w0 : 0 ≤ w) (w1 : w < 4294967296)
    (hs : Aside0 (crucibleref02_shaped.f k (w / 16777216) = some (true, true, false, 16, true, is)))
    (hn : decide (32768 ≤ wrap64 (bits .and .u32 w 65535)) = true)
    (he : Hid (∀ W, Calls Try.prog 48 #[.agg #[.int .i64 (w / 16777216), .int .i64 (wrap64 (bits .and .u32 (w / 1048576) 15)), .int .i64 (wrap64 (bits .and .u32 (w / 65536) 15)), .int .i64 (0), .int .i32 (wrap32 (wrap64 (wrap64 (bits .and .u32 w 65535) - 65536)))]] W fun e w' => e = .returned (.tuple #[.int .u32 v, .int .i64 c]) ∧ Below W.heap.size W w'))
    (ho : (c = 1 ∧ r1 = 0 ∧ r2 = 0 ∧ r3 = 0 ∧ r4 = 0 ∧ r5 = 0 ∧ r6 = 1) ∨ (c = 0 ∧ (v == w) = false ∧ r1 = 0 ∧ r2 = 0 ∧ r3 = 0 ∧ r4 = 0 ∧ r5 = 0 ∧ r6 = 1) ∨ (c = 0 ∧ (v == w) = true ∧ r1 = w / 16777216 ∧ r2 = wrap64 (bits .and .u32 (w / 1048576) 15) ∧ r3 = wrap64 (bits .and .u32 (w / 65536) 15) ∧ r4 = 0 ∧ r5 = wrap32 (wrap64 (wrap64 (bits .and .u32 w 65535) - 65536)) ∧ r6 = 0)) :
    Calls Try.prog 57 #[.int .u32 w] W fun e w' => e = .returned (.tuple #[.agg #[.int .i64 r1, .int .i64 r2, .int .i64 r3, .int .i64 r4, .int .i32 r5], .int .i64 r6]) ∧ Below W.heap.size W w' := by
  rcases ho with ⟨rfl, rfl, rfl, rfl, rfl, rfl, rfl⟩ | ⟨rfl, hv, rfl, rfl, rfl, rfl, rfl, rfl⟩ | ⟨rfl, hv, rfl, rfl, rfl, rfl, rfl, rfl⟩
  all_goals
    go_enter Try.func57, Try.ntmps57
    go_wp2_with fail
    (with_reducible refine (crucibleref02_shaped.calls k (w / 16777216) _ _ _ _ _ _ _ hs.out).mono ?_)
    rintro e W1 ⟨rfl, hb⟩
    obtain ⟨hc, hf⟩ := bcell hb
    have hz1 : W.heap.size + 1 < W1.heap.size := by have := hb.size; simp at this; omega
    have hz : W.heap.size < W1.heap.size := by omega
    have hb1 := Aside0.mk ((below_alloc (below_alloc (Below.refl W.heap.size W) _) _).trans (hb.mono (by simp; omega)))
    have hk1 : Aside0 (W1.heap[W.heap.size]? = some (.cells #[.int .i64 0, .int .i64 0, .int .i64 0, .int .i64 0, .int .i32 0] 67 (0, 0))) := ⟨blk_below (blk_alloc (blk_new W _) _) hb⟩
    clear hb
    go_wp2_with fail
    (with_reducible refine (he.out _).mono ?_)
    rintro e W2 ⟨rfl, hb2⟩
    obtain ⟨hc2, hf2⟩ := bcell hb2
    have hz3 : W1.heap.size < W2.heap.size := by have := hb2.size; simp at this; omega
    have hz4 : W.heap.size + 1 < W2.heap.size := by omega
    have hz5 : W.heap.size < W2.heap.size := by omega
    have hb3 : Aside0 (Below W.heap.size W W2) := ⟨below_then (by repeat (with_reducible first | exact hb1.out | refine below_alloc ?_ _ | refine Below.setCell ?_ (by simp) _)) (by simp; omega) hb2⟩
    have hk : Aside0 (W2.heap[W.heap.size]? = some (.cells #[.int .i64 0, .int .i64 0, .int .i64 0, .int .i64 0, .int .i32 0] 67 (0, 0))) := ⟨blk_below (by repeat (with_reducible first | exact hk1.out | refine blk_alloc ?_ _ | refine blk_far ?_ (by simp) _)) hb2⟩
    clear hb2
    go_wp2
    refine bodyPost_ret (results_ct rfl _ _ W.heap.size 67 #[.int .i64 _, .int .i64 _, .int .i64 _, .int .i64 _, .int .i32 _] (0, 0) _ rfl (blk_put (blk_put (blk_put (blk_put (blk_put hk.out 0 _ rfl) 1 _ rfl) 2 _ rfl) 3 _ rfl) 4 _ rfl) Try.underlying67 rfl (by kernel_rfl)) rfl ⟨rfl, ?_⟩
    repeat (with_reducible first | exact hb3.out | refine below_alloc ?_ _ | refine Below.setCell ?_ (by simp) _)

set_option maxHeartbeats 8000000 in
set_option maxRecDepth 100000 in
theorem decCp (k : Nat) (w v c r1 r2 r3 r4 r5 r6 : Int) (is : Bool) (W : World) (w0 : 0 ≤ w) (w1 : w < 4294967296)
    (hs : Aside0 (crucibleref02_shaped.f k (w / 16777216) = some (true, false, false, 16, true, is)))
    (hn : decide (32768 ≤ wrap64 (bits .and .u32 w 65535)) = false)
    (he : Hid (∀ W, Calls Try.prog 48 #[.agg #[.int .i64 (w / 16777216), .int .i64 (wrap64 (bits .and .u32 (w / 1048576) 15)), .int .i64 (0), .int .i64 (0), .int .i32 (wrap32 (wrap64 (bits .and .u32 w 65535)))]] W fun e w' => e = .returned (.tuple #[.int .u32 v, .int .i64 c]) ∧ Below W.heap.size W w'))
    (ho : (c = 1 ∧ r1 = 0 ∧ r2 = 0 ∧ r3 = 0 ∧ r4 = 0 ∧ r5 = 0 ∧ r6 = 1) ∨ (c = 0 ∧ (v == w) = false ∧ r1 = 0 ∧ r2 = 0 ∧ r3 = 0 ∧ r4 = 0 ∧ r5 = 0 ∧ r6 = 1) ∨ (c = 0 ∧ (v == w) = true ∧ r1 = w / 16777216 ∧ r2 = wrap64 (bits .and .u32 (w / 1048576) 15) ∧ r3 = 0 ∧ r4 = 0 ∧ r5 = wrap32 (wrap64 (bits .and .u32 w 65535)) ∧ r6 = 0)) :
    Calls Try.prog 57 #[.int .u32 w] W fun e w' => e = .returned (.tuple #[.agg #[.int .i64 r1, .int .i64 r2, .int .i64 r3, .int .i64 r4, .int .i32 r5], .int .i64 r6]) ∧ Below W.heap.size W w' := by
  rcases ho with ⟨rfl, rfl, rfl, rfl, rfl, rfl, rfl⟩ | ⟨rfl, hv, rfl, rfl, rfl, rfl, rfl, rfl⟩ | ⟨rfl, hv, rfl, rfl, rfl, rfl, rfl, rfl⟩
  all_goals
    go_enter Try.func57, Try.ntmps57
    go_wp2_with fail
    (with_reducible refine (crucibleref02_shaped.calls k (w / 16777216) _ _ _ _ _ _ _ hs.out).mono ?_)
    rintro e W1 ⟨rfl, hb⟩
    obtain ⟨hc, hf⟩ := bcell hb
    have hz1 : W.heap.size + 1 < W1.heap.size := by have := hb.size; simp at this; omega
    have hz : W.heap.size < W1.heap.size := by omega
    have hb1 := Aside0.mk ((below_alloc (below_alloc (Below.refl W.heap.size W) _) _).trans (hb.mono (by simp; omega)))
    have hk1 : Aside0 (W1.heap[W.heap.size]? = some (.cells #[.int .i64 0, .int .i64 0, .int .i64 0, .int .i64 0, .int .i32 0] 67 (0, 0))) := ⟨blk_below (blk_alloc (blk_new W _) _) hb⟩
    clear hb
    go_wp2_with fail
    (with_reducible refine (he.out _).mono ?_)
    rintro e W2 ⟨rfl, hb2⟩
    obtain ⟨hc2, hf2⟩ := bcell hb2
    have hz3 : W1.heap.size < W2.heap.size := by have := hb2.size; simp at this; omega
    have hz4 : W.heap.size + 1 < W2.heap.size := by omega
    have hz5 : W.heap.size < W2.heap.size := by omega
    have hb3 : Aside0 (Below W.heap.size W W2) := ⟨below_then (by repeat (with_reducible first | exact hb1.out | refine below_alloc ?_ _ | refine Below.setCell ?_ (by simp) _)) (by simp; omega) hb2⟩
    have hk : Aside0 (W2.heap[W.heap.size]? = some (.cells #[.int .i64 0, .int .i64 0, .int .i64 0, .int .i64 0, .int .i32 0] 67 (0, 0))) := ⟨blk_below (by repeat (with_reducible first | exact hk1.out | refine blk_alloc ?_ _ | refine blk_far ?_ (by simp) _)) hb2⟩
    clear hb2
    go_wp2
    refine bodyPost_ret (results_ct rfl _ _ W.heap.size 67 #[.int .i64 _, .int .i64 _, .int .i64 _, .int .i64 _, .int .i32 _] (0, 0) _ rfl (blk_put (blk_put (blk_put (blk_put (blk_put hk.out 0 _ rfl) 1 _ rfl) 2 _ rfl) 3 _ rfl) 4 _ rfl) Try.underlying67 rfl (by kernel_rfl)) rfl ⟨rfl, ?_⟩
    repeat (with_reducible first | exact hb3.out | refine below_alloc ?_ _ | refine Below.setCell ?_ (by simp) _)

set_option maxHeartbeats 8000000 in
set_option maxRecDepth 100000 in
theorem decCn (k : Nat) (w v c r1 r2 r3 r4 r5 r6 : Int) (is : Bool) (W : World) (w0 : 0 ≤ w) (w1 : w < 4294967296)
    (hs : Aside0 (crucibleref02_shaped.f k (w / 16777216) = some (true, false, false, 16, true, is)))
    (hn : decide (32768 ≤ wrap64 (bits .and .u32 w 65535)) = true)
    (he : Hid (∀ W, Calls Try.prog 48 #[.agg #[.int .i64 (w / 16777216), .int .i64 (wrap64 (bits .and .u32 (w / 1048576) 15)), .int .i64 (0), .int .i64 (0), .int .i32 (wrap32 (wrap64 (wrap64 (bits .and .u32 w 65535) - 65536)))]] W fun e w' => e = .returned (.tuple #[.int .u32 v, .int .i64 c]) ∧ Below W.heap.size W w'))
    (ho : (c = 1 ∧ r1 = 0 ∧ r2 = 0 ∧ r3 = 0 ∧ r4 = 0 ∧ r5 = 0 ∧ r6 = 1) ∨ (c = 0 ∧ (v == w) = false ∧ r1 = 0 ∧ r2 = 0 ∧ r3 = 0 ∧ r4 = 0 ∧ r5 = 0 ∧ r6 = 1) ∨ (c = 0 ∧ (v == w) = true ∧ r1 = w / 16777216 ∧ r2 = wrap64 (bits .and .u32 (w / 1048576) 15) ∧ r3 = 0 ∧ r4 = 0 ∧ r5 = wrap32 (wrap64 (wrap64 (bits .and .u32 w 65535) - 65536)) ∧ r6 = 0)) :
    Calls Try.prog 57 #[.int .u32 w] W fun e w' => e = .returned (.tuple #[.agg #[.int .i64 r1, .int .i64 r2, .int .i64 r3, .int .i64 r4, .int .i32 r5], .int .i64 r6]) ∧ Below W.heap.size W w' := by
  rcases ho with ⟨rfl, rfl, rfl, rfl, rfl, rfl, rfl⟩ | ⟨rfl, hv, rfl, rfl, rfl, rfl, rfl, rfl⟩ | ⟨rfl, hv, rfl, rfl, rfl, rfl, rfl, rfl⟩
  all_goals
    go_enter Try.func57, Try.ntmps57
    go_wp2_with fail
    (with_reducible refine (crucibleref02_shaped.calls k (w / 16777216) _ _ _ _ _ _ _ hs.out).mono ?_)
    rintro e W1 ⟨rfl, hb⟩
    obtain ⟨hc, hf⟩ := bcell hb
    have hz1 : W.heap.size + 1 < W1.heap.size := by have := hb.size; simp at this; omega
    have hz : W.heap.size < W1.heap.size := by omega
    have hb1 := Aside0.mk ((below_alloc (below_alloc (Below.refl W.heap.size W) _) _).trans (hb.mono (by simp; omega)))
    have hk1 : Aside0 (W1.heap[W.heap.size]? = some (.cells #[.int .i64 0, .int .i64 0, .int .i64 0, .int .i64 0, .int .i32 0] 67 (0, 0))) := ⟨blk_below (blk_alloc (blk_new W _) _) hb⟩
    clear hb
    go_wp2_with fail
    (with_reducible refine (he.out _).mono ?_)
    rintro e W2 ⟨rfl, hb2⟩
    obtain ⟨hc2, hf2⟩ := bcell hb2
    have hz3 : W1.heap.size < W2.heap.size := by have := hb2.size; simp at this; omega
    have hz4 : W.heap.size + 1 < W2.heap.size := by omega
    have hz5 : W.heap.size < W2.heap.size := by omega
    have hb3 : Aside0 (Below W.heap.size W W2) := ⟨below_then (by repeat (with_reducible first | exact hb1.out | refine below_alloc ?_ _ | refine Below.setCell ?_ (by simp) _)) (by simp; omega) hb2⟩
    have hk : Aside0 (W2.heap[W.heap.size]? = some (.cells #[.int .i64 0, .int .i64 0, .int .i64 0, .int .i64 0, .int .i32 0] 67 (0, 0))) := ⟨blk_below (by repeat (with_reducible first | exact hk1.out | refine blk_alloc ?_ _ | refine blk_far ?_ (by simp) _)) hb2⟩
    clear hb2
    go_wp2
    refine bodyPost_ret (results_ct rfl _ _ W.heap.size 67 #[.int .i64 _, .int .i64 _, .int .i64 _, .int .i64 _, .int .i32 _] (0, 0) _ rfl (blk_put (blk_put (blk_put (blk_put (blk_put hk.out 0 _ rfl) 1 _ rfl) 2 _ rfl) 3 _ rfl) 4 _ rfl) Try.underlying67 rfl (by kernel_rfl)) rfl ⟨rfl, ?_⟩
    repeat (with_reducible first | exact hb3.out | refine below_alloc ?_ _ | refine Below.setCell ?_ (by simp) _)

set_option maxHeartbeats 8000000 in
set_option maxRecDepth 100000 in
theorem decD (k : Nat) (w v c r1 r2 r3 r4 r5 r6 : Int) (is : Bool) (W : World) (w0 : 0 ≤ w) (w1 : w < 4294967296)
    (hs : Aside0 (crucibleref02_shaped.f k (w / 16777216) = some (true, false, false, 16, false, is)))
    (he : Hid (∀ W, Calls Try.prog 48 #[.agg #[.int .i64 (w / 16777216), .int .i64 (wrap64 (bits .and .u32 (w / 1048576) 15)), .int .i64 (0), .int .i64 (0), .int .i32 (wrap32 (wrap64 (bits .and .u32 w 65535)))]] W fun e w' => e = .returned (.tuple #[.int .u32 v, .int .i64 c]) ∧ Below W.heap.size W w'))
    (ho : (c = 1 ∧ r1 = 0 ∧ r2 = 0 ∧ r3 = 0 ∧ r4 = 0 ∧ r5 = 0 ∧ r6 = 1) ∨ (c = 0 ∧ (v == w) = false ∧ r1 = 0 ∧ r2 = 0 ∧ r3 = 0 ∧ r4 = 0 ∧ r5 = 0 ∧ r6 = 1) ∨ (c = 0 ∧ (v == w) = true ∧ r1 = w / 16777216 ∧ r2 = wrap64 (bits .and .u32 (w / 1048576) 15) ∧ r3 = 0 ∧ r4 = 0 ∧ r5 = wrap32 (wrap64 (bits .and .u32 w 65535)) ∧ r6 = 0)) :
    Calls Try.prog 57 #[.int .u32 w] W fun e w' => e = .returned (.tuple #[.agg #[.int .i64 r1, .int .i64 r2, .int .i64 r3, .int .i64 r4, .int .i32 r5], .int .i64 r6]) ∧ Below W.heap.size W w' := by
  rcases ho with ⟨rfl, rfl, rfl, rfl, rfl, rfl, rfl⟩ | ⟨rfl, hv, rfl, rfl, rfl, rfl, rfl, rfl⟩ | ⟨rfl, hv, rfl, rfl, rfl, rfl, rfl, rfl⟩
  all_goals
    go_enter Try.func57, Try.ntmps57
    go_wp2_with fail
    (with_reducible refine (crucibleref02_shaped.calls k (w / 16777216) _ _ _ _ _ _ _ hs.out).mono ?_)
    rintro e W1 ⟨rfl, hb⟩
    obtain ⟨hc, hf⟩ := bcell hb
    have hz1 : W.heap.size + 1 < W1.heap.size := by have := hb.size; simp at this; omega
    have hz : W.heap.size < W1.heap.size := by omega
    have hb1 := Aside0.mk ((below_alloc (below_alloc (Below.refl W.heap.size W) _) _).trans (hb.mono (by simp; omega)))
    have hk1 : Aside0 (W1.heap[W.heap.size]? = some (.cells #[.int .i64 0, .int .i64 0, .int .i64 0, .int .i64 0, .int .i32 0] 67 (0, 0))) := ⟨blk_below (blk_alloc (blk_new W _) _) hb⟩
    clear hb
    go_wp2_with fail
    (with_reducible refine (he.out _).mono ?_)
    rintro e W2 ⟨rfl, hb2⟩
    obtain ⟨hc2, hf2⟩ := bcell hb2
    have hz3 : W1.heap.size < W2.heap.size := by have := hb2.size; simp at this; omega
    have hz4 : W.heap.size + 1 < W2.heap.size := by omega
    have hz5 : W.heap.size < W2.heap.size := by omega
    have hb3 : Aside0 (Below W.heap.size W W2) := ⟨below_then (by repeat (with_reducible first | exact hb1.out | refine below_alloc ?_ _ | refine Below.setCell ?_ (by simp) _)) (by simp; omega) hb2⟩
    have hk : Aside0 (W2.heap[W.heap.size]? = some (.cells #[.int .i64 0, .int .i64 0, .int .i64 0, .int .i64 0, .int .i32 0] 67 (0, 0))) := ⟨blk_below (by repeat (with_reducible first | exact hk1.out | refine blk_alloc ?_ _ | refine blk_far ?_ (by simp) _)) hb2⟩
    clear hb2
    go_wp2
    refine bodyPost_ret (results_ct rfl _ _ W.heap.size 67 #[.int .i64 _, .int .i64 _, .int .i64 _, .int .i64 _, .int .i32 _] (0, 0) _ rfl (blk_put (blk_put (blk_put (blk_put (blk_put hk.out 0 _ rfl) 1 _ rfl) 2 _ rfl) 3 _ rfl) 4 _ rfl) Try.underlying67 rfl (by kernel_rfl)) rfl ⟨rfl, ?_⟩
    repeat (with_reducible first | exact hb3.out | refine below_alloc ?_ _ | refine Below.setCell ?_ (by simp) _)

set_option maxHeartbeats 8000000 in
set_option maxRecDepth 100000 in
theorem decEp (k : Nat) (w v c r1 r2 r3 r4 r5 r6 : Int) (is : Bool) (W : World) (w0 : 0 ≤ w) (w1 : w < 4294967296)
    (hs : Aside0 (crucibleref02_shaped.f k (w / 16777216) = some (false, true, false, 16, true, is)))
    (hn : decide (32768 ≤ wrap64 (bits .and .u32 w 65535)) = false)
    (he : Hid (∀ W, Calls Try.prog 48 #[.agg #[.int .i64 (w / 16777216), .int .i64 (0), .int .i64 (wrap64 (bits .and .u32 (w / 65536) 15)), .int .i64 (0), .int .i32 (wrap32 (wrap64 (bits .and .u32 w 65535)))]] W fun e w' => e = .returned (.tuple #[.int .u32 v, .int .i64 c]) ∧ Below W.heap.size W w'))
    (ho : (c = 1 ∧ r1 = 0 ∧ r2 = 0 ∧ r3 = 0 ∧ r4 = 0 ∧ r5 = 0 ∧ r6 = 1) ∨ (c = 0 ∧ (v == w) = false ∧ r1 = 0 ∧ r2 = 0 ∧ r3 = 0 ∧ r4 = 0 ∧ r5 = 0 ∧ r6 = 1) ∨ (c = 0 ∧ (v == w) = true ∧ r1 = w / 16777216 ∧ r2 = 0 ∧ r3 = wrap64 (bits .and .u32 (w / 65536) 15) ∧ r4 = 0 ∧ r5 = wrap32 (wrap64 (bits .and .u32 w 65535)) ∧ r6 = 0)) :
    Calls Try.prog 57 #[.int .u32 w] W fun e w' => e = .returned (.tuple #[.agg #[.int .i64 r1, .int .i64 r2, .int .i64 r3, .int .i64 r4, .int .i32 r5], .int .i64 r6]) ∧ Below W.heap.size W w' := by
  rcases ho with ⟨rfl, rfl, rfl, rfl, rfl, rfl, rfl⟩ | ⟨rfl, hv, rfl, rfl, rfl, rfl, rfl, rfl⟩ | ⟨rfl, hv, rfl, rfl, rfl, rfl, rfl, rfl⟩
  all_goals
    go_enter Try.func57, Try.ntmps57
    go_wp2_with fail
    (with_reducible refine (crucibleref02_shaped.calls k (w / 16777216) _ _ _ _ _ _ _ hs.out).mono ?_)
    rintro e W1 ⟨rfl, hb⟩
    obtain ⟨hc, hf⟩ := bcell hb
    have hz1 : W.heap.size + 1 < W1.heap.size := by have := hb.size; simp at this; omega
    have hz : W.heap.size < W1.heap.size := by omega
    have hb1 := Aside0.mk ((below_alloc (below_alloc (Below.refl W.heap.size W) _) _).trans (hb.mono (by simp; omega)))
    have hk1 : Aside0 (W1.heap[W.heap.size]? = some (.cells #[.int .i64 0, .int .i64 0, .int .i64 0, .int .i64 0, .int .i32 0] 67 (0, 0))) := ⟨blk_below (blk_alloc (blk_new W _) _) hb⟩
    clear hb
    go_wp2_with fail
    (with_reducible refine (he.out _).mono ?_)
    rintro e W2 ⟨rfl, hb2⟩
    obtain ⟨hc2, hf2⟩ := bcell hb2
    have hz3 : W1.heap.size < W2.heap.size := by have := hb2.size; simp at this; omega
    have hz4 : W.heap.size + 1 < W2.heap.size := by omega
    have hz5 : W.heap.size < W2.heap.size := by omega
    have hb3 : Aside0 (Below W.heap.size W W2) := ⟨below_then (by repeat (with_reducible first | exact hb1.out | refine below_alloc ?_ _ | refine Below.setCell ?_ (by simp) _)) (by simp; omega) hb2⟩
    have hk : Aside0 (W2.heap[W.heap.size]? = some (.cells #[.int .i64 0, .int .i64 0, .int .i64 0, .int .i64 0, .int .i32 0] 67 (0, 0))) := ⟨blk_below (by repeat (with_reducible first | exact hk1.out | refine blk_alloc ?_ _ | refine blk_far ?_ (by simp) _)) hb2⟩
    clear hb2
    go_wp2
    refine bodyPost_ret (results_ct rfl _ _ W.heap.size 67 #[.int .i64 _, .int .i64 _, .int .i64 _, .int .i64 _, .int .i32 _] (0, 0) _ rfl (blk_put (blk_put (blk_put (blk_put (blk_put hk.out 0 _ rfl) 1 _ rfl) 2 _ rfl) 3 _ rfl) 4 _ rfl) Try.underlying67 rfl (by kernel_rfl)) rfl ⟨rfl, ?_⟩
    repeat (with_reducible first | exact hb3.out | refine below_alloc ?_ _ | refine Below.setCell ?_ (by simp) _)

set_option maxHeartbeats 8000000 in
set_option maxRecDepth 100000 in
theorem decEn (k : Nat) (w v c r1 r2 r3 r4 r5 r6 : Int) (is : Bool) (W : World) (w0 : 0 ≤ w) (w1 : w < 4294967296)
    (hs : Aside0 (crucibleref02_shaped.f k (w / 16777216) = some (false, true, false, 16, true, is)))
    (hn : decide (32768 ≤ wrap64 (bits .and .u32 w 65535)) = true)
    (he : Hid (∀ W, Calls Try.prog 48 #[.agg #[.int .i64 (w / 16777216), .int .i64 (0), .int .i64 (wrap64 (bits .and .u32 (w / 65536) 15)), .int .i64 (0), .int .i32 (wrap32 (wrap64 (wrap64 (bits .and .u32 w 65535) - 65536)))]] W fun e w' => e = .returned (.tuple #[.int .u32 v, .int .i64 c]) ∧ Below W.heap.size W w'))
    (ho : (c = 1 ∧ r1 = 0 ∧ r2 = 0 ∧ r3 = 0 ∧ r4 = 0 ∧ r5 = 0 ∧ r6 = 1) ∨ (c = 0 ∧ (v == w) = false ∧ r1 = 0 ∧ r2 = 0 ∧ r3 = 0 ∧ r4 = 0 ∧ r5 = 0 ∧ r6 = 1) ∨ (c = 0 ∧ (v == w) = true ∧ r1 = w / 16777216 ∧ r2 = 0 ∧ r3 = wrap64 (bits .and .u32 (w / 65536) 15) ∧ r4 = 0 ∧ r5 = wrap32 (wrap64 (wrap64 (bits .and .u32 w 65535) - 65536)) ∧ r6 = 0)) :
    Calls Try.prog 57 #[.int .u32 w] W fun e w' => e = .returned (.tuple #[.agg #[.int .i64 r1, .int .i64 r2, .int .i64 r3, .int .i64 r4, .int .i32 r5], .int .i64 r6]) ∧ Below W.heap.size W w' := by
  rcases ho with ⟨rfl, rfl, rfl, rfl, rfl, rfl, rfl⟩ | ⟨rfl, hv, rfl, rfl, rfl, rfl, rfl, rfl⟩ | ⟨rfl, hv, rfl, rfl, rfl, rfl, rfl, rfl⟩
  all_goals
    go_enter Try.func57, Try.ntmps57
    go_wp2_with fail
    (with_reducible refine (crucibleref02_shaped.calls k (w / 16777216) _ _ _ _ _ _ _ hs.out).mono ?_)
    rintro e W1 ⟨rfl, hb⟩
    obtain ⟨hc, hf⟩ := bcell hb
    have hz1 : W.heap.size + 1 < W1.heap.size := by have := hb.size; simp at this; omega
    have hz : W.heap.size < W1.heap.size := by omega
    have hb1 := Aside0.mk ((below_alloc (below_alloc (Below.refl W.heap.size W) _) _).trans (hb.mono (by simp; omega)))
    have hk1 : Aside0 (W1.heap[W.heap.size]? = some (.cells #[.int .i64 0, .int .i64 0, .int .i64 0, .int .i64 0, .int .i32 0] 67 (0, 0))) := ⟨blk_below (blk_alloc (blk_new W _) _) hb⟩
    clear hb
    go_wp2_with fail
    (with_reducible refine (he.out _).mono ?_)
    rintro e W2 ⟨rfl, hb2⟩
    obtain ⟨hc2, hf2⟩ := bcell hb2
    have hz3 : W1.heap.size < W2.heap.size := by have := hb2.size; simp at this; omega
    have hz4 : W.heap.size + 1 < W2.heap.size := by omega
    have hz5 : W.heap.size < W2.heap.size := by omega
    have hb3 : Aside0 (Below W.heap.size W W2) := ⟨below_then (by repeat (with_reducible first | exact hb1.out | refine below_alloc ?_ _ | refine Below.setCell ?_ (by simp) _)) (by simp; omega) hb2⟩
    have hk : Aside0 (W2.heap[W.heap.size]? = some (.cells #[.int .i64 0, .int .i64 0, .int .i64 0, .int .i64 0, .int .i32 0] 67 (0, 0))) := ⟨blk_below (by repeat (with_reducible first | exact hk1.out | refine blk_alloc ?_ _ | refine blk_far ?_ (by simp) _)) hb2⟩
    clear hb2
    go_wp2
    refine bodyPost_ret (results_ct rfl _ _ W.heap.size 67 #[.int .i64 _, .int .i64 _, .int .i64 _, .int .i64 _, .int .i32 _] (0, 0) _ rfl (blk_put (blk_put (blk_put (blk_put (blk_put hk.out 0 _ rfl) 1 _ rfl) 2 _ rfl) 3 _ rfl) 4 _ rfl) Try.underlying67 rfl (by kernel_rfl)) rfl ⟨rfl, ?_⟩
    repeat (with_reducible first | exact hb3.out | refine below_alloc ?_ _ | refine Below.setCell ?_ (by simp) _)

set_option maxHeartbeats 8000000 in
set_option maxRecDepth 100000 in
theorem decFp (k : Nat) (w v c r1 r2 r3 r4 r5 r6 : Int) (is : Bool) (W : World) (w0 : 0 ≤ w) (w1 : w < 4294967296)
    (hs : Aside0 (crucibleref02_shaped.f k (w / 16777216) = some (false, false, false, 24, true, is)))
    (hn : decide (8388608 ≤ wrap64 (bits .and .u32 w 16777215)) = false)
    (he : Hid (∀ W, Calls Try.prog 48 #[.agg #[.int .i64 (w / 16777216), .int .i64 (0), .int .i64 (0), .int .i64 (0), .int .i32 (wrap32 (wrap64 (bits .and .u32 w 16777215)))]] W fun e w' => e = .returned (.tuple #[.int .u32 v, .int .i64 c]) ∧ Below W.heap.size W w'))
    (ho : (c = 1 ∧ r1 = 0 ∧ r2 = 0 ∧ r3 = 0 ∧ r4 = 0 ∧ r5 = 0 ∧ r6 = 1) ∨ (c = 0 ∧ (v == w) = false ∧ r1 = 0 ∧ r2 = 0 ∧ r3 = 0 ∧ r4 = 0 ∧ r5 = 0 ∧ r6 = 1) ∨ (c = 0 ∧ (v == w) = true ∧ r1 = w / 16777216 ∧ r2 = 0 ∧ r3 = 0 ∧ r4 = 0 ∧ r5 = wrap32 (wrap64 (bits .and .u32 w 16777215)) ∧ r6 = 0)) :
    Calls Try.prog 57 #[.int .u32 w] W fun e w' => e = .returned (.tuple #[.agg #[.int .i64 r1, .int .i64 r2, .int .i64 r3, .int .i64 r4, .int .i32 r5], .int .i64 r6]) ∧ Below W.heap.size W w' := by
  rcases ho with ⟨rfl, rfl, rfl, rfl, rfl, rfl, rfl⟩ | ⟨rfl, hv, rfl, rfl, rfl, rfl, rfl, rfl⟩ | ⟨rfl, hv, rfl, rfl, rfl, rfl, rfl, rfl⟩
  all_goals
    go_enter Try.func57, Try.ntmps57
    go_wp2_with fail
    (with_reducible refine (crucibleref02_shaped.calls k (w / 16777216) _ _ _ _ _ _ _ hs.out).mono ?_)
    rintro e W1 ⟨rfl, hb⟩
    obtain ⟨hc, hf⟩ := bcell hb
    have hz1 : W.heap.size + 1 < W1.heap.size := by have := hb.size; simp at this; omega
    have hz : W.heap.size < W1.heap.size := by omega
    have hb1 := Aside0.mk ((below_alloc (below_alloc (Below.refl W.heap.size W) _) _).trans (hb.mono (by simp; omega)))
    have hk1 : Aside0 (W1.heap[W.heap.size]? = some (.cells #[.int .i64 0, .int .i64 0, .int .i64 0, .int .i64 0, .int .i32 0] 67 (0, 0))) := ⟨blk_below (blk_alloc (blk_new W _) _) hb⟩
    clear hb
    go_wp2_with fail
    (with_reducible refine (he.out _).mono ?_)
    rintro e W2 ⟨rfl, hb2⟩
    obtain ⟨hc2, hf2⟩ := bcell hb2
    have hz3 : W1.heap.size < W2.heap.size := by have := hb2.size; simp at this; omega
    have hz4 : W.heap.size + 1 < W2.heap.size := by omega
    have hz5 : W.heap.size < W2.heap.size := by omega
    have hb3 : Aside0 (Below W.heap.size W W2) := ⟨below_then (by repeat (with_reducible first | exact hb1.out | refine below_alloc ?_ _ | refine Below.setCell ?_ (by simp) _)) (by simp; omega) hb2⟩
    have hk : Aside0 (W2.heap[W.heap.size]? = some (.cells #[.int .i64 0, .int .i64 0, .int .i64 0, .int .i64 0, .int .i32 0] 67 (0, 0))) := ⟨blk_below (by repeat (with_reducible first | exact hk1.out | refine blk_alloc ?_ _ | refine blk_far ?_ (by simp) _)) hb2⟩
    clear hb2
    go_wp2
    refine bodyPost_ret (results_ct rfl _ _ W.heap.size 67 #[.int .i64 _, .int .i64 _, .int .i64 _, .int .i64 _, .int .i32 _] (0, 0) _ rfl (blk_put (blk_put (blk_put (blk_put (blk_put hk.out 0 _ rfl) 1 _ rfl) 2 _ rfl) 3 _ rfl) 4 _ rfl) Try.underlying67 rfl (by kernel_rfl)) rfl ⟨rfl, ?_⟩
    repeat (with_reducible first | exact hb3.out | refine below_alloc ?_ _ | refine Below.setCell ?_ (by simp) _)

set_option maxHeartbeats 8000000 in
set_option maxRecDepth 100000 in
theorem decFn (k : Nat) (w v c r1 r2 r3 r4 r5 r6 : Int) (is : Bool) (W : World) (w0 : 0 ≤ w) (w1 : w < 4294967296)
    (hs : Aside0 (crucibleref02_shaped.f k (w / 16777216) = some (false, false, false, 24, true, is)))
    (hn : decide (8388608 ≤ wrap64 (bits .and .u32 w 16777215)) = true)
    (he : Hid (∀ W, Calls Try.prog 48 #[.agg #[.int .i64 (w / 16777216), .int .i64 (0), .int .i64 (0), .int .i64 (0), .int .i32 (wrap32 (wrap64 (wrap64 (bits .and .u32 w 16777215) - 16777216)))]] W fun e w' => e = .returned (.tuple #[.int .u32 v, .int .i64 c]) ∧ Below W.heap.size W w'))
    (ho : (c = 1 ∧ r1 = 0 ∧ r2 = 0 ∧ r3 = 0 ∧ r4 = 0 ∧ r5 = 0 ∧ r6 = 1) ∨ (c = 0 ∧ (v == w) = false ∧ r1 = 0 ∧ r2 = 0 ∧ r3 = 0 ∧ r4 = 0 ∧ r5 = 0 ∧ r6 = 1) ∨ (c = 0 ∧ (v == w) = true ∧ r1 = w / 16777216 ∧ r2 = 0 ∧ r3 = 0 ∧ r4 = 0 ∧ r5 = wrap32 (wrap64 (wrap64 (bits .and .u32 w 16777215) - 16777216)) ∧ r6 = 0)) :
    Calls Try.prog 57 #[.int .u32 w] W fun e w' => e = .returned (.tuple #[.agg #[.int .i64 r1, .int .i64 r2, .int .i64 r3, .int .i64 r4, .int .i32 r5], .int .i64 r6]) ∧ Below W.heap.size W w' := by
  rcases ho with ⟨rfl, rfl, rfl, rfl, rfl, rfl, rfl⟩ | ⟨rfl, hv, rfl, rfl, rfl, rfl, rfl, rfl⟩ | ⟨rfl, hv, rfl, rfl, rfl, rfl, rfl, rfl⟩
  all_goals
    go_enter Try.func57, Try.ntmps57
    go_wp2_with fail
    (with_reducible refine (crucibleref02_shaped.calls k (w / 16777216) _ _ _ _ _ _ _ hs.out).mono ?_)
    rintro e W1 ⟨rfl, hb⟩
    obtain ⟨hc, hf⟩ := bcell hb
    have hz1 : W.heap.size + 1 < W1.heap.size := by have := hb.size; simp at this; omega
    have hz : W.heap.size < W1.heap.size := by omega
    have hb1 := Aside0.mk ((below_alloc (below_alloc (Below.refl W.heap.size W) _) _).trans (hb.mono (by simp; omega)))
    have hk1 : Aside0 (W1.heap[W.heap.size]? = some (.cells #[.int .i64 0, .int .i64 0, .int .i64 0, .int .i64 0, .int .i32 0] 67 (0, 0))) := ⟨blk_below (blk_alloc (blk_new W _) _) hb⟩
    clear hb
    go_wp2_with fail
    (with_reducible refine (he.out _).mono ?_)
    rintro e W2 ⟨rfl, hb2⟩
    obtain ⟨hc2, hf2⟩ := bcell hb2
    have hz3 : W1.heap.size < W2.heap.size := by have := hb2.size; simp at this; omega
    have hz4 : W.heap.size + 1 < W2.heap.size := by omega
    have hz5 : W.heap.size < W2.heap.size := by omega
    have hb3 : Aside0 (Below W.heap.size W W2) := ⟨below_then (by repeat (with_reducible first | exact hb1.out | refine below_alloc ?_ _ | refine Below.setCell ?_ (by simp) _)) (by simp; omega) hb2⟩
    have hk : Aside0 (W2.heap[W.heap.size]? = some (.cells #[.int .i64 0, .int .i64 0, .int .i64 0, .int .i64 0, .int .i32 0] 67 (0, 0))) := ⟨blk_below (by repeat (with_reducible first | exact hk1.out | refine blk_alloc ?_ _ | refine blk_far ?_ (by simp) _)) hb2⟩
    clear hb2
    go_wp2
    refine bodyPost_ret (results_ct rfl _ _ W.heap.size 67 #[.int .i64 _, .int .i64 _, .int .i64 _, .int .i64 _, .int .i32 _] (0, 0) _ rfl (blk_put (blk_put (blk_put (blk_put (blk_put hk.out 0 _ rfl) 1 _ rfl) 2 _ rfl) 3 _ rfl) 4 _ rfl) Try.underlying67 rfl (by kernel_rfl)) rfl ⟨rfl, ?_⟩
    repeat (with_reducible first | exact hb3.out | refine below_alloc ?_ _ | refine Below.setCell ?_ (by simp) _)

set_option maxHeartbeats 8000000 in
set_option maxRecDepth 100000 in
theorem decG (k : Nat) (w v c r1 r2 r3 r4 r5 r6 : Int) (is : Bool) (W : World) (w0 : 0 ≤ w) (w1 : w < 4294967296)
    (hs : Aside0 (crucibleref02_shaped.f k (w / 16777216) = some (false, true, false, 0, false, is)))
    (he : Hid (∀ W, Calls Try.prog 48 #[.agg #[.int .i64 (w / 16777216), .int .i64 (0), .int .i64 (wrap64 (bits .and .u32 (w / 65536) 15)), .int .i64 (0), .int .i32 (0)]] W fun e w' => e = .returned (.tuple #[.int .u32 v, .int .i64 c]) ∧ Below W.heap.size W w'))
    (ho : (c = 1 ∧ r1 = 0 ∧ r2 = 0 ∧ r3 = 0 ∧ r4 = 0 ∧ r5 = 0 ∧ r6 = 1) ∨ (c = 0 ∧ (v == w) = false ∧ r1 = 0 ∧ r2 = 0 ∧ r3 = 0 ∧ r4 = 0 ∧ r5 = 0 ∧ r6 = 1) ∨ (c = 0 ∧ (v == w) = true ∧ r1 = w / 16777216 ∧ r2 = 0 ∧ r3 = wrap64 (bits .and .u32 (w / 65536) 15) ∧ r4 = 0 ∧ r5 = 0 ∧ r6 = 0)) :
    Calls Try.prog 57 #[.int .u32 w] W fun e w' => e = .returned (.tuple #[.agg #[.int .i64 r1, .int .i64 r2, .int .i64 r3, .int .i64 r4, .int .i32 r5], .int .i64 r6]) ∧ Below W.heap.size W w' := by
  rcases ho with ⟨rfl, rfl, rfl, rfl, rfl, rfl, rfl⟩ | ⟨rfl, hv, rfl, rfl, rfl, rfl, rfl, rfl⟩ | ⟨rfl, hv, rfl, rfl, rfl, rfl, rfl, rfl⟩
  all_goals
    go_enter Try.func57, Try.ntmps57
    go_wp2_with fail
    (with_reducible refine (crucibleref02_shaped.calls k (w / 16777216) _ _ _ _ _ _ _ hs.out).mono ?_)
    rintro e W1 ⟨rfl, hb⟩
    obtain ⟨hc, hf⟩ := bcell hb
    have hz1 : W.heap.size + 1 < W1.heap.size := by have := hb.size; simp at this; omega
    have hz : W.heap.size < W1.heap.size := by omega
    have hb1 := Aside0.mk ((below_alloc (below_alloc (Below.refl W.heap.size W) _) _).trans (hb.mono (by simp; omega)))
    have hk1 : Aside0 (W1.heap[W.heap.size]? = some (.cells #[.int .i64 0, .int .i64 0, .int .i64 0, .int .i64 0, .int .i32 0] 67 (0, 0))) := ⟨blk_below (blk_alloc (blk_new W _) _) hb⟩
    clear hb
    go_wp2_with fail
    (with_reducible refine (he.out _).mono ?_)
    rintro e W2 ⟨rfl, hb2⟩
    obtain ⟨hc2, hf2⟩ := bcell hb2
    have hz3 : W1.heap.size < W2.heap.size := by have := hb2.size; simp at this; omega
    have hz4 : W.heap.size + 1 < W2.heap.size := by omega
    have hz5 : W.heap.size < W2.heap.size := by omega
    have hb3 : Aside0 (Below W.heap.size W W2) := ⟨below_then (by repeat (with_reducible first | exact hb1.out | refine below_alloc ?_ _ | refine Below.setCell ?_ (by simp) _)) (by simp; omega) hb2⟩
    have hk : Aside0 (W2.heap[W.heap.size]? = some (.cells #[.int .i64 0, .int .i64 0, .int .i64 0, .int .i64 0, .int .i32 0] 67 (0, 0))) := ⟨blk_below (by repeat (with_reducible first | exact hk1.out | refine blk_alloc ?_ _ | refine blk_far ?_ (by simp) _)) hb2⟩
    clear hb2
    go_wp2
    refine bodyPost_ret (results_ct rfl _ _ W.heap.size 67 #[.int .i64 _, .int .i64 _, .int .i64 _, .int .i64 _, .int .i32 _] (0, 0) _ rfl (blk_put (blk_put (blk_put (blk_put (blk_put hk.out 0 _ rfl) 1 _ rfl) 2 _ rfl) 3 _ rfl) 4 _ rfl) Try.underlying67 rfl (by kernel_rfl)) rfl ⟨rfl, ?_⟩
    repeat (with_reducible first | exact hb3.out | refine below_alloc ?_ _ | refine Below.setCell ?_ (by simp) _)

set_option maxHeartbeats 8000000 in
set_option maxRecDepth 100000 in
theorem decH (k : Nat) (w v c r1 r2 r3 r4 r5 r6 : Int) (is : Bool) (W : World) (w0 : 0 ≤ w) (w1 : w < 4294967296)
    (hs : Aside0 (crucibleref02_shaped.f k (w / 16777216) = some (true, false, false, 0, false, is)))
    (he : Hid (∀ W, Calls Try.prog 48 #[.agg #[.int .i64 (w / 16777216), .int .i64 (wrap64 (bits .and .u32 (w / 1048576) 15)), .int .i64 (0), .int .i64 (0), .int .i32 (0)]] W fun e w' => e = .returned (.tuple #[.int .u32 v, .int .i64 c]) ∧ Below W.heap.size W w'))
    (ho : (c = 1 ∧ r1 = 0 ∧ r2 = 0 ∧ r3 = 0 ∧ r4 = 0 ∧ r5 = 0 ∧ r6 = 1) ∨ (c = 0 ∧ (v == w) = false ∧ r1 = 0 ∧ r2 = 0 ∧ r3 = 0 ∧ r4 = 0 ∧ r5 = 0 ∧ r6 = 1) ∨ (c = 0 ∧ (v == w) = true ∧ r1 = w / 16777216 ∧ r2 = wrap64 (bits .and .u32 (w / 1048576) 15) ∧ r3 = 0 ∧ r4 = 0 ∧ r5 = 0 ∧ r6 = 0)) :
    Calls Try.prog 57 #[.int .u32 w] W fun e w' => e = .returned (.tuple #[.agg #[.int .i64 r1, .int .i64 r2, .int .i64 r3, .int .i64 r4, .int .i32 r5], .int .i64 r6]) ∧ Below W.heap.size W w' := by
  rcases ho with ⟨rfl, rfl, rfl, rfl, rfl, rfl, rfl⟩ | ⟨rfl, hv, rfl, rfl, rfl, rfl, rfl, rfl⟩ | ⟨rfl, hv, rfl, rfl, rfl, rfl, rfl, rfl⟩
  all_goals
    go_enter Try.func57, Try.ntmps57
    go_wp2_with fail
    (with_reducible refine (crucibleref02_shaped.calls k (w / 16777216) _ _ _ _ _ _ _ hs.out).mono ?_)
    rintro e W1 ⟨rfl, hb⟩
    obtain ⟨hc, hf⟩ := bcell hb
    have hz1 : W.heap.size + 1 < W1.heap.size := by have := hb.size; simp at this; omega
    have hz : W.heap.size < W1.heap.size := by omega
    have hb1 := Aside0.mk ((below_alloc (below_alloc (Below.refl W.heap.size W) _) _).trans (hb.mono (by simp; omega)))
    have hk1 : Aside0 (W1.heap[W.heap.size]? = some (.cells #[.int .i64 0, .int .i64 0, .int .i64 0, .int .i64 0, .int .i32 0] 67 (0, 0))) := ⟨blk_below (blk_alloc (blk_new W _) _) hb⟩
    clear hb
    go_wp2_with fail
    (with_reducible refine (he.out _).mono ?_)
    rintro e W2 ⟨rfl, hb2⟩
    obtain ⟨hc2, hf2⟩ := bcell hb2
    have hz3 : W1.heap.size < W2.heap.size := by have := hb2.size; simp at this; omega
    have hz4 : W.heap.size + 1 < W2.heap.size := by omega
    have hz5 : W.heap.size < W2.heap.size := by omega
    have hb3 : Aside0 (Below W.heap.size W W2) := ⟨below_then (by repeat (with_reducible first | exact hb1.out | refine below_alloc ?_ _ | refine Below.setCell ?_ (by simp) _)) (by simp; omega) hb2⟩
    have hk : Aside0 (W2.heap[W.heap.size]? = some (.cells #[.int .i64 0, .int .i64 0, .int .i64 0, .int .i64 0, .int .i32 0] 67 (0, 0))) := ⟨blk_below (by repeat (with_reducible first | exact hk1.out | refine blk_alloc ?_ _ | refine blk_far ?_ (by simp) _)) hb2⟩
    clear hb2
    go_wp2
    refine bodyPost_ret (results_ct rfl _ _ W.heap.size 67 #[.int .i64 _, .int .i64 _, .int .i64 _, .int .i64 _, .int .i32 _] (0, 0) _ rfl (blk_put (blk_put (blk_put (blk_put (blk_put hk.out 0 _ rfl) 1 _ rfl) 2 _ rfl) 3 _ rfl) 4 _ rfl) Try.underlying67 rfl (by kernel_rfl)) rfl ⟨rfl, ?_⟩
    repeat (with_reducible first | exact hb3.out | refine below_alloc ?_ _ | refine Below.setCell ?_ (by simp) _)

set_option maxHeartbeats 8000000 in
set_option maxRecDepth 100000 in
theorem decI (k : Nat) (w v c r1 r2 r3 r4 r5 r6 : Int) (is : Bool) (W : World) (w0 : 0 ≤ w) (w1 : w < 4294967296)
    (hs : Aside0 (crucibleref02_shaped.f k (w / 16777216) = some (false, false, false, 16, false, is)))
    (he : Hid (∀ W, Calls Try.prog 48 #[.agg #[.int .i64 (w / 16777216), .int .i64 (0), .int .i64 (0), .int .i64 (0), .int .i32 (wrap32 (wrap64 (bits .and .u32 w 65535)))]] W fun e w' => e = .returned (.tuple #[.int .u32 v, .int .i64 c]) ∧ Below W.heap.size W w'))
    (ho : (c = 1 ∧ r1 = 0 ∧ r2 = 0 ∧ r3 = 0 ∧ r4 = 0 ∧ r5 = 0 ∧ r6 = 1) ∨ (c = 0 ∧ (v == w) = false ∧ r1 = 0 ∧ r2 = 0 ∧ r3 = 0 ∧ r4 = 0 ∧ r5 = 0 ∧ r6 = 1) ∨ (c = 0 ∧ (v == w) = true ∧ r1 = w / 16777216 ∧ r2 = 0 ∧ r3 = 0 ∧ r4 = 0 ∧ r5 = wrap32 (wrap64 (bits .and .u32 w 65535)) ∧ r6 = 0)) :
    Calls Try.prog 57 #[.int .u32 w] W fun e w' => e = .returned (.tuple #[.agg #[.int .i64 r1, .int .i64 r2, .int .i64 r3, .int .i64 r4, .int .i32 r5], .int .i64 r6]) ∧ Below W.heap.size W w' := by
  rcases ho with ⟨rfl, rfl, rfl, rfl, rfl, rfl, rfl⟩ | ⟨rfl, hv, rfl, rfl, rfl, rfl, rfl, rfl⟩ | ⟨rfl, hv, rfl, rfl, rfl, rfl, rfl, rfl⟩
  all_goals
    go_enter Try.func57, Try.ntmps57
    go_wp2_with fail
    (with_reducible refine (crucibleref02_shaped.calls k (w / 16777216) _ _ _ _ _ _ _ hs.out).mono ?_)
    rintro e W1 ⟨rfl, hb⟩
    obtain ⟨hc, hf⟩ := bcell hb
    have hz1 : W.heap.size + 1 < W1.heap.size := by have := hb.size; simp at this; omega
    have hz : W.heap.size < W1.heap.size := by omega
    have hb1 := Aside0.mk ((below_alloc (below_alloc (Below.refl W.heap.size W) _) _).trans (hb.mono (by simp; omega)))
    have hk1 : Aside0 (W1.heap[W.heap.size]? = some (.cells #[.int .i64 0, .int .i64 0, .int .i64 0, .int .i64 0, .int .i32 0] 67 (0, 0))) := ⟨blk_below (blk_alloc (blk_new W _) _) hb⟩
    clear hb
    go_wp2_with fail
    (with_reducible refine (he.out _).mono ?_)
    rintro e W2 ⟨rfl, hb2⟩
    obtain ⟨hc2, hf2⟩ := bcell hb2
    have hz3 : W1.heap.size < W2.heap.size := by have := hb2.size; simp at this; omega
    have hz4 : W.heap.size + 1 < W2.heap.size := by omega
    have hz5 : W.heap.size < W2.heap.size := by omega
    have hb3 : Aside0 (Below W.heap.size W W2) := ⟨below_then (by repeat (with_reducible first | exact hb1.out | refine below_alloc ?_ _ | refine Below.setCell ?_ (by simp) _)) (by simp; omega) hb2⟩
    have hk : Aside0 (W2.heap[W.heap.size]? = some (.cells #[.int .i64 0, .int .i64 0, .int .i64 0, .int .i64 0, .int .i32 0] 67 (0, 0))) := ⟨blk_below (by repeat (with_reducible first | exact hk1.out | refine blk_alloc ?_ _ | refine blk_far ?_ (by simp) _)) hb2⟩
    clear hb2
    go_wp2
    refine bodyPost_ret (results_ct rfl _ _ W.heap.size 67 #[.int .i64 _, .int .i64 _, .int .i64 _, .int .i64 _, .int .i32 _] (0, 0) _ rfl (blk_put (blk_put (blk_put (blk_put (blk_put hk.out 0 _ rfl) 1 _ rfl) 2 _ rfl) 3 _ rfl) 4 _ rfl) Try.underlying67 rfl (by kernel_rfl)) rfl ⟨rfl, ?_⟩
    repeat (with_reducible first | exact hb3.out | refine below_alloc ?_ _ | refine Below.setCell ?_ (by simp) _)

set_option maxHeartbeats 8000000 in
set_option maxRecDepth 100000 in
theorem decJ (k : Nat) (w v c r1 r2 r3 r4 r5 r6 : Int) (is : Bool) (W : World) (w0 : 0 ≤ w) (w1 : w < 4294967296)
    (hs : Aside0 (crucibleref02_shaped.f k (w / 16777216) = some (false, false, false, 0, false, is)))
    (he : Hid (∀ W, Calls Try.prog 48 #[.agg #[.int .i64 (w / 16777216), .int .i64 (0), .int .i64 (0), .int .i64 (0), .int .i32 (0)]] W fun e w' => e = .returned (.tuple #[.int .u32 v, .int .i64 c]) ∧ Below W.heap.size W w'))
    (ho : (c = 1 ∧ r1 = 0 ∧ r2 = 0 ∧ r3 = 0 ∧ r4 = 0 ∧ r5 = 0 ∧ r6 = 1) ∨ (c = 0 ∧ (v == w) = false ∧ r1 = 0 ∧ r2 = 0 ∧ r3 = 0 ∧ r4 = 0 ∧ r5 = 0 ∧ r6 = 1) ∨ (c = 0 ∧ (v == w) = true ∧ r1 = w / 16777216 ∧ r2 = 0 ∧ r3 = 0 ∧ r4 = 0 ∧ r5 = 0 ∧ r6 = 0)) :
    Calls Try.prog 57 #[.int .u32 w] W fun e w' => e = .returned (.tuple #[.agg #[.int .i64 r1, .int .i64 r2, .int .i64 r3, .int .i64 r4, .int .i32 r5], .int .i64 r6]) ∧ Below W.heap.size W w' := by
  rcases ho with ⟨rfl, rfl, rfl, rfl, rfl, rfl, rfl⟩ | ⟨rfl, hv, rfl, rfl, rfl, rfl, rfl, rfl⟩ | ⟨rfl, hv, rfl, rfl, rfl, rfl, rfl, rfl⟩
  all_goals
    go_enter Try.func57, Try.ntmps57
    go_wp2_with fail
    (with_reducible refine (crucibleref02_shaped.calls k (w / 16777216) _ _ _ _ _ _ _ hs.out).mono ?_)
    rintro e W1 ⟨rfl, hb⟩
    obtain ⟨hc, hf⟩ := bcell hb
    have hz1 : W.heap.size + 1 < W1.heap.size := by have := hb.size; simp at this; omega
    have hz : W.heap.size < W1.heap.size := by omega
    have hb1 := Aside0.mk ((below_alloc (below_alloc (Below.refl W.heap.size W) _) _).trans (hb.mono (by simp; omega)))
    have hk1 : Aside0 (W1.heap[W.heap.size]? = some (.cells #[.int .i64 0, .int .i64 0, .int .i64 0, .int .i64 0, .int .i32 0] 67 (0, 0))) := ⟨blk_below (blk_alloc (blk_new W _) _) hb⟩
    clear hb
    go_wp2_with fail
    (with_reducible refine (he.out _).mono ?_)
    rintro e W2 ⟨rfl, hb2⟩
    obtain ⟨hc2, hf2⟩ := bcell hb2
    have hz3 : W1.heap.size < W2.heap.size := by have := hb2.size; simp at this; omega
    have hz4 : W.heap.size + 1 < W2.heap.size := by omega
    have hz5 : W.heap.size < W2.heap.size := by omega
    have hb3 : Aside0 (Below W.heap.size W W2) := ⟨below_then (by repeat (with_reducible first | exact hb1.out | refine below_alloc ?_ _ | refine Below.setCell ?_ (by simp) _)) (by simp; omega) hb2⟩
    have hk : Aside0 (W2.heap[W.heap.size]? = some (.cells #[.int .i64 0, .int .i64 0, .int .i64 0, .int .i64 0, .int .i32 0] 67 (0, 0))) := ⟨blk_below (by repeat (with_reducible first | exact hk1.out | refine blk_alloc ?_ _ | refine blk_far ?_ (by simp) _)) hb2⟩
    clear hb2
    go_wp2
    refine bodyPost_ret (results_ct rfl _ _ W.heap.size 67 #[.int .i64 _, .int .i64 _, .int .i64 _, .int .i64 _, .int .i32 _] (0, 0) _ rfl (blk_put (blk_put (blk_put (blk_put (blk_put hk.out 0 _ rfl) 1 _ rfl) 2 _ rfl) 3 _ rfl) 4 _ rfl) Try.underlying67 rfl (by kernel_rfl)) rfl ⟨rfl, ?_⟩
    repeat (with_reducible first | exact hb3.out | refine below_alloc ?_ _ | refine Below.setCell ?_ (by simp) _)

end Go.Proofs.Ytbhkfdjofopfkaa.RefIsa
