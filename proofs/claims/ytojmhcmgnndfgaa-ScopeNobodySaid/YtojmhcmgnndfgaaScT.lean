/- Scopes: the law of nobody. -/
import Derived.Test.YtojmhcmgnndfgaaScR
namespace Go.Proofs.Ytojmhcmgnndfgaa.Sc
open Go.RowKit Go.Proofs.YtojmhcmgnndfgaaW.PrintWords
set_option linter.unusedVariables false
set_option linter.unusedSimpArgs false

set_option maxHeartbeats 8000000 in
set_option maxRecDepth 100000 in
theorem nobody (d : Int) (s : ByteArray) (x : Int) (w : World) :
    Calls Try.prog 5 #[.agg #[.int .i64 d, .string s, .int .i64 x]] w (Yes w) := by
  have hX : Aside0 ((w.alloc (bx d s x)).heap[w.heap.size]? = some (bx d s x)) := ⟨blk_new w (bx d s x)⟩
  have hB : Aside0 (Below w.heap.size w (w.alloc (bx d s x))) := ⟨below_alloc (Below.refl _ _) _⟩
  go_enter Try.func5, Try.ntmps5
  go_wp2
  go_loopw [3] (fun i wr => ∃ k : Nat, k ≤ 2 ∧ i = .int .i64 k ∧ Aside0 (wr.heap[w.heap.size]? = some (bx d s x)) ∧ Aside0 (Below w.heap.size w wr)) (fun i _ => 2 - (intOf i).toNat)
  case atStart => exact ⟨0, by omega, rfl, hX, hB⟩
  case round =>
    obtain ⟨k, hk, rfl, hX2, hB2⟩ := hrel
    clear hX hB
    have c1 : wr.cell? ⟨w.heap.size, 1, none⟩ = some (.string s) := (blk_cell hX2.out 1).trans rfl
    have c2 : wr.cell? ⟨w.heap.size, 2, none⟩ = some (.int .i64 x) := (blk_cell hX2.out 2).trans rfl
    by_cases h2 : k = 2
    · subst h2
      go_wp2_with ((with_reducible refine (awake _).mono ?_); rintro e w' ⟨rfl, hb⟩)
      go_ret
      exact ⟨by first | rfl | simp, below_step hB2.out hb⟩
    · by_cases h0 : k = 0
      · subst h0
        have hd := Aside0.mk (depth_nil wr)
        go_wp2_with (first | ((with_reducible refine (enter_no hd).mono ?_); rintro e w' ⟨rfl, rfl⟩) | ((with_reducible refine (find_0 s hd).mono ?_); rintro e w' ⟨rfl, rfl⟩) | ((with_reducible refine (Dp.call hd.out).mono ?_); rintro e w' ⟨rfl, rfl⟩) | ((with_reducible refine (declare_0 s x hd).mono ?_); rintro e w' ⟨rfl, rfl⟩) | ((with_reducible refine (leave_0 hd).mono ?_); rintro e w' ⟨rfl, rfl⟩))
        exact ⟨⟨1, by omega, by go_num, hX2, hB2⟩, by simp [intOf]⟩
      · obtain rfl : k = 1 := by omega
        have hn := blk_new wr (.cells #[.slice none 0 0] 44)
        have hX3 : Aside0 ((wr.alloc (.cells #[.slice none 0 0] 44)).heap[w.heap.size]? = some (bx d s x)) := ⟨blk_alloc hX2.out _⟩
        have hB3 : Aside0 (Below w.heap.size w (wr.alloc (.cells #[.slice none 0 0] 44))) := ⟨below_step hB2.out (below_alloc (Below.refl _ _) _)⟩
        have e1 : (wr.alloc (.cells #[.slice none 0 0] 44)).cell? ⟨w.heap.size, 1, none⟩ = some (.string s) := (blk_cell hX3.out 1).trans rfl
        have e2 : (wr.alloc (.cells #[.slice none 0 0] 44)).cell? ⟨w.heap.size, 2, none⟩ = some (.int .i64 x) := (blk_cell hX3.out 2).trans rfl
        have hd := Aside0.mk (depth_slice (w := wr.alloc (.cells #[.slice none 0 0] 44)) (g := wr.heap.size) (A := none) (n := 0) (c := 0) ((blk_cell hn 0).trans rfl))
        clear hX2 hB2 c1 c2
        go_wp2_with (first | ((with_reducible refine (enter_no hd).mono ?_); rintro e w' ⟨rfl, rfl⟩) | ((with_reducible refine (find_0 s hd).mono ?_); rintro e w' ⟨rfl, rfl⟩) | ((with_reducible refine (Dp.call hd.out).mono ?_); rintro e w' ⟨rfl, rfl⟩) | ((with_reducible refine (declare_0 s x hd).mono ?_); rintro e w' ⟨rfl, rfl⟩) | ((with_reducible refine (leave_0 hd).mono ?_); rintro e w' ⟨rfl, rfl⟩))
        exact ⟨⟨2, by omega, by go_num, hX3, hB3⟩, by simp [intOf]⟩
end Go.Proofs.Ytojmhcmgnndfgaa.Sc
