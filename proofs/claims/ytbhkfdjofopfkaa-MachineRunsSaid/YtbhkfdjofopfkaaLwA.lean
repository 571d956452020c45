/- How a run of any image under any fuel ends: the walk of the law. -/
import Derived.Test.YtbhkfdjofopfkaaMaO
import Derived.Test.YtbhkfdjofopfkaaRaJ
namespace Go.Proofs.Ytbhkfdjofopfkaa.MemA
open Go.RowKit Go.Proofs.YtbhkfdjofopfkaaW.PrintWords Go.Proofs.YtbhkfdjofopfkaaW.PrintLast
set_option linter.unusedVariables false
set_option linter.unusedSimpArgs false
theorem runV_agg (c d : ByteArray) (g e f : Int) (inp : ByteArray) (n : Int) : ∃ (a1 a2 a3 : Int) (a4 : ByteArray) (a5 er : Int), runV c d g e f inp n = (.agg #[.int .i64 a1, .int .i32 a2, .int .i64 a3, .string a4, .int .i64 a5], er) := by
  unfold runV
  split
  · exact ⟨_, _, _, _, _, _, rfl⟩
  · split
    · exact ⟨_, _, _, _, _, _, rfl⟩
    · split
      · exact ⟨_, _, _, _, _, _, rfl⟩
      · exact ⟨_, _, _, _, _, _, rfl⟩
/-- The fuel that is run. -/
def cap (n : Int) : Int := if 3000 < n then 3000 else n
set_option maxHeartbeats 8000000 in
set_option maxRecDepth 100000 in
theorem runs_at (c d : ByteArray) (g e f : Int) (inp : ByteArray) (n : Int) (m : Int) (hm : m = cap n) (w : World) (hi : inp.size ≤ 9223372036854775807) :
    Calls Try.prog 3 #[imV c d g e f, .string inp, .int .i64 n] w fun e w' => e = .returned (.bool true) ∧ Below w.heap.size w w' := by
  have hP := fun W => Aside0.mk (runP c d g e f inp m W hi (by subst hm; unfold cap; split <;> omega))
  have hR := fun W => Aside0.mk (rrunP c d g e f inp m W hi (by subst hm; unfold cap; split <;> omega))
  obtain ⟨a1, a2, a3, a4, a5, er, hV⟩ := runV_agg c d g e f inp m
  rw [hV] at hP hR
  clear hV
  have hb : Aside0 (Below w.heap.size w (w.alloc (.cells #[.string c, .string d, .int .i64 g, .int .i64 e, .int .i64 f] 23))) := ⟨below_alloc (Below.refl _ _) _⟩
  have hr : Aside0 ((w.alloc (.cells #[.string c, .string d, .int .i64 g, .int .i64 e, .int .i64 f] 23)).heap[w.heap.size]? = some (.cells #[.string c, .string d, .int .i64 g, .int .i64 e, .int .i64 f] 23 (0, 0))) := ⟨blk_new w _⟩
  unfold cap at hm
  by_cases h3 : 3000 < n
  · rw [if_pos h3] at hm
    subst hm
    go_enter Try.func3, Try.ntmps3
    go_upto_region 3 with (fail)
    generalize w.alloc (.cells #[.string c, .string d, .int .i64 g, .int .i64 e, .int .i64 f] 23) = W at *
    have y0 := (blk_cell hr.out 0).trans (show _ = some (.string c) from rfl)
    have y1 := (blk_cell hr.out 1).trans (show _ = some (.string d) from rfl)
    have y2 := (blk_cell hr.out 2).trans (show _ = some (.int .i64 g) from rfl)
    have y3 := (blk_cell hr.out 3).trans (show _ = some (.int .i64 e) from rfl)
    have y4 := (blk_cell hr.out 4).trans (show _ = some (.int .i64 f) from rfl)
    go_upto_region 4 with (go_at_call 9; (with_reducible refine (hP _).out.mono ?_); rintro e' w1 ⟨rfl, hb1⟩; replace hb1 := Aside0.mk hb1)
    clear y0 y1 y2 y3 y4
    have hb2 : Aside0 (Below w.heap.size w (w1.alloc (.cells #[.int .i64 a1, .int .i32 a2, .int .i64 a3, .string a4, .int .i64 a5] 25))) := ⟨below_alloc (below_step hb.out hb1.out) _⟩
    have hr2 : Aside0 ((w1.alloc (.cells #[.int .i64 a1, .int .i32 a2, .int .i64 a3, .string a4, .int .i64 a5] 25)).heap[w.heap.size]? = some (.cells #[.string c, .string d, .int .i64 g, .int .i64 e, .int .i64 f] 23 (0, 0))) := ⟨blk_alloc (blk_below hr.out hb1.out) _⟩
    have ha2 : Aside0 ((w1.alloc (.cells #[.int .i64 a1, .int .i32 a2, .int .i64 a3, .string a4, .int .i64 a5] 25)).heap[w1.heap.size]? = some (.cells #[.int .i64 a1, .int .i32 a2, .int .i64 a3, .string a4, .int .i64 a5] 25 (0, 0))) := ⟨blk_new _ _⟩
    generalize w1.alloc (.cells #[.int .i64 a1, .int .i32 a2, .int .i64 a3, .string a4, .int .i64 a5] 25) = W2 at *
    generalize w1.heap.size = pa at *
    clear hb1 hb hr
    have y0 := (blk_cell hr2.out 0).trans (show _ = some (.string c) from rfl)
    have y1 := (blk_cell hr2.out 1).trans (show _ = some (.string d) from rfl)
    have y2 := (blk_cell hr2.out 2).trans (show _ = some (.int .i64 g) from rfl)
    have y3 := (blk_cell hr2.out 3).trans (show _ = some (.int .i64 e) from rfl)
    have y4 := (blk_cell hr2.out 4).trans (show _ = some (.int .i64 f) from rfl)
    go_upto_region 5 with (go_at_call 10; (with_reducible refine (hR _).out.mono ?_); rintro e' w3 ⟨rfl, hb3⟩; replace hb3 := Aside0.mk hb3)
    clear y0 y1 y2 y3 y4
    have hb4 : Aside0 (Below w.heap.size w (w3.alloc (.cells #[.int .i64 a1, .int .i32 a2, .int .i64 a3, .string a4, .int .i64 a5] 25))) := ⟨below_alloc (below_step hb2.out hb3.out) _⟩
    have ha4 : Aside0 ((w3.alloc (.cells #[.int .i64 a1, .int .i32 a2, .int .i64 a3, .string a4, .int .i64 a5] 25)).heap[pa]? = some (.cells #[.int .i64 a1, .int .i32 a2, .int .i64 a3, .string a4, .int .i64 a5] 25 (0, 0))) := ⟨blk_alloc (blk_below ha2.out hb3.out) _⟩
    have hc4 : Aside0 ((w3.alloc (.cells #[.int .i64 a1, .int .i32 a2, .int .i64 a3, .string a4, .int .i64 a5] 25)).heap[w3.heap.size]? = some (.cells #[.int .i64 a1, .int .i32 a2, .int .i64 a3, .string a4, .int .i64 a5] 25 (0, 0))) := ⟨blk_new _ _⟩
    generalize w3.alloc (.cells #[.int .i64 a1, .int .i32 a2, .int .i64 a3, .string a4, .int .i64 a5] 25) = W4 at *
    generalize w3.heap.size = pc at *
    clear hb3 hb2 hr2 ha2
    have x0 := (blk_cell ha4.out 0).trans (show _ = some (.int .i64 a1) from rfl)
    have x1 := (blk_cell ha4.out 1).trans (show _ = some (.int .i32 a2) from rfl)
    have x2 := (blk_cell ha4.out 2).trans (show _ = some (.int .i64 a3) from rfl)
    have x3 := (blk_cell ha4.out 3).trans (show _ = some (.string a4) from rfl)
    have x4 := (blk_cell ha4.out 4).trans (show _ = some (.int .i64 a5) from rfl)
    have z0 := (blk_cell hc4.out 0).trans (show _ = some (.int .i64 a1) from rfl)
    have z1 := (blk_cell hc4.out 1).trans (show _ = some (.int .i32 a2) from rfl)
    have z2 := (blk_cell hc4.out 2).trans (show _ = some (.int .i64 a3) from rfl)
    have z3 := (blk_cell hc4.out 3).trans (show _ = some (.string a4) from rfl)
    have z4 := (blk_cell hc4.out 4).trans (show _ = some (.int .i64 a5) from rfl)
    go_wp2_with (go_at_call 11; (with_reducible refine (awake _).mono ?_); rintro e' w5 ⟨rfl, hb5⟩; replace hb5 := Aside0.mk hb5)
    go_ret
    exact ⟨rfl, below_step hb4.out hb5.out⟩
  · rw [if_neg h3] at hm
    subst hm
    go_enter Try.func3, Try.ntmps3
    go_upto_region 3 with (fail)
    generalize w.alloc (.cells #[.string c, .string d, .int .i64 g, .int .i64 e, .int .i64 f] 23) = W at *
    have y0 := (blk_cell hr.out 0).trans (show _ = some (.string c) from rfl)
    have y1 := (blk_cell hr.out 1).trans (show _ = some (.string d) from rfl)
    have y2 := (blk_cell hr.out 2).trans (show _ = some (.int .i64 g) from rfl)
    have y3 := (blk_cell hr.out 3).trans (show _ = some (.int .i64 e) from rfl)
    have y4 := (blk_cell hr.out 4).trans (show _ = some (.int .i64 f) from rfl)
    go_upto_region 4 with (go_at_call 9; (with_reducible refine (hP _).out.mono ?_); rintro e' w1 ⟨rfl, hb1⟩; replace hb1 := Aside0.mk hb1)
    clear y0 y1 y2 y3 y4
    have hb2 : Aside0 (Below w.heap.size w (w1.alloc (.cells #[.int .i64 a1, .int .i32 a2, .int .i64 a3, .string a4, .int .i64 a5] 25))) := ⟨below_alloc (below_step hb.out hb1.out) _⟩
    have hr2 : Aside0 ((w1.alloc (.cells #[.int .i64 a1, .int .i32 a2, .int .i64 a3, .string a4, .int .i64 a5] 25)).heap[w.heap.size]? = some (.cells #[.string c, .string d, .int .i64 g, .int .i64 e, .int .i64 f] 23 (0, 0))) := ⟨blk_alloc (blk_below hr.out hb1.out) _⟩
    have ha2 : Aside0 ((w1.alloc (.cells #[.int .i64 a1, .int .i32 a2, .int .i64 a3, .string a4, .int .i64 a5] 25)).heap[w1.heap.size]? = some (.cells #[.int .i64 a1, .int .i32 a2, .int .i64 a3, .string a4, .int .i64 a5] 25 (0, 0))) := ⟨blk_new _ _⟩
    generalize w1.alloc (.cells #[.int .i64 a1, .int .i32 a2, .int .i64 a3, .string a4, .int .i64 a5] 25) = W2 at *
    generalize w1.heap.size = pa at *
    clear hb1 hb hr
    have y0 := (blk_cell hr2.out 0).trans (show _ = some (.string c) from rfl)
    have y1 := (blk_cell hr2.out 1).trans (show _ = some (.string d) from rfl)
    have y2 := (blk_cell hr2.out 2).trans (show _ = some (.int .i64 g) from rfl)
    have y3 := (blk_cell hr2.out 3).trans (show _ = some (.int .i64 e) from rfl)
    have y4 := (blk_cell hr2.out 4).trans (show _ = some (.int .i64 f) from rfl)
    go_upto_region 5 with (go_at_call 10; (with_reducible refine (hR _).out.mono ?_); rintro e' w3 ⟨rfl, hb3⟩; replace hb3 := Aside0.mk hb3)
    clear y0 y1 y2 y3 y4
    have hb4 : Aside0 (Below w.heap.size w (w3.alloc (.cells #[.int .i64 a1, .int .i32 a2, .int .i64 a3, .string a4, .int .i64 a5] 25))) := ⟨below_alloc (below_step hb2.out hb3.out) _⟩
    have ha4 : Aside0 ((w3.alloc (.cells #[.int .i64 a1, .int .i32 a2, .int .i64 a3, .string a4, .int .i64 a5] 25)).heap[pa]? = some (.cells #[.int .i64 a1, .int .i32 a2, .int .i64 a3, .string a4, .int .i64 a5] 25 (0, 0))) := ⟨blk_alloc (blk_below ha2.out hb3.out) _⟩
    have hc4 : Aside0 ((w3.alloc (.cells #[.int .i64 a1, .int .i32 a2, .int .i64 a3, .string a4, .int .i64 a5] 25)).heap[w3.heap.size]? = some (.cells #[.int .i64 a1, .int .i32 a2, .int .i64 a3, .string a4, .int .i64 a5] 25 (0, 0))) := ⟨blk_new _ _⟩
    generalize w3.alloc (.cells #[.int .i64 a1, .int .i32 a2, .int .i64 a3, .string a4, .int .i64 a5] 25) = W4 at *
    generalize w3.heap.size = pc at *
    clear hb3 hb2 hr2 ha2
    have x0 := (blk_cell ha4.out 0).trans (show _ = some (.int .i64 a1) from rfl)
    have x1 := (blk_cell ha4.out 1).trans (show _ = some (.int .i32 a2) from rfl)
    have x2 := (blk_cell ha4.out 2).trans (show _ = some (.int .i64 a3) from rfl)
    have x3 := (blk_cell ha4.out 3).trans (show _ = some (.string a4) from rfl)
    have x4 := (blk_cell ha4.out 4).trans (show _ = some (.int .i64 a5) from rfl)
    have z0 := (blk_cell hc4.out 0).trans (show _ = some (.int .i64 a1) from rfl)
    have z1 := (blk_cell hc4.out 1).trans (show _ = some (.int .i32 a2) from rfl)
    have z2 := (blk_cell hc4.out 2).trans (show _ = some (.int .i64 a3) from rfl)
    have z3 := (blk_cell hc4.out 3).trans (show _ = some (.string a4) from rfl)
    have z4 := (blk_cell hc4.out 4).trans (show _ = some (.int .i64 a5) from rfl)
    go_wp2_with (go_at_call 11; (with_reducible refine (awake _).mono ?_); rintro e' w5 ⟨rfl, hb5⟩; replace hb5 := Aside0.mk hb5)
    go_ret
    exact ⟨rfl, below_step hb4.out hb5.out⟩
theorem runs (c d : ByteArray) (g e f : Int) (inp : ByteArray) (n : Int) (w : World) (hi : inp.size ≤ 9223372036854775807) :
    Calls Try.prog 3 #[imV c d g e f, .string inp, .int .i64 n] w fun e w' => e = .returned (.bool true) ∧ Below w.heap.size w w' := runs_at c d g e f inp n _ rfl w hi
end Go.Proofs.Ytbhkfdjofopfkaa.MemA
