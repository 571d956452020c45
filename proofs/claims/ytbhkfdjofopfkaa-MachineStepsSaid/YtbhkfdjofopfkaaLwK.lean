/- The program's machine beside the reference's, step by step, for any image, input and count. -/
import Derived.Test.YtbhkfdjofopfkaaLwJ
namespace Go.Proofs.Ytbhkfdjofopfkaa.MemA
open Go.RowKit Go.Proofs.YtbhkfdjofopfkaaW.PrintWords Go.Proofs.YtbhkfdjofopfkaaW.PrintLast
set_option linter.unusedVariables false
set_option linter.unusedSimpArgs false
set_option maxHeartbeats 8000000 in
set_option maxRecDepth 100000 in
theorem steps_bad (c d : ByteArray) (g e f : Int) (inp : ByteArray) (n : Int) (w : World) (hi : inp.size ≤ 9223372036854775807) (h : mayI c d g e f = false) :
    Calls Try.prog 8 #[imV c d g e f, .string inp, .int .u16 n] w fun e w' => e = .returned (.bool true) ∧ Below w.heap.size w w' := by
  have hnew := fun W => Aside0.mk (new_bad c d g e f inp W hi h)
  have hrnew := fun W => Aside0.mk (rnew_bad c d g e f inp W hi h)
  have hck := fun W => Aside0.mk (checkP c d g e f W)
  have hrk := fun W => Aside0.mk (chk14 c d g e f W)
  rw [h] at hck hrk
  replace hck : ∀ W : World, Aside0 (Calls Try.prog 22 #[imV c d g e f] W fun e' w' => e' = .returned (.int .i64 1) ∧ Below W.heap.size W w') := hck
  replace hrk : ∀ W : World, Aside0 (Calls Try.prog 14 #[imV c d g e f] W fun e' w' => e' = .returned (.int .i64 1) ∧ Below W.heap.size W w') := hrk
  have hb : Aside0 (Below w.heap.size w (w.alloc (.cells #[.string c, .string d, .int .i64 g, .int .i64 e, .int .i64 f] 23))) := ⟨below_alloc (Below.refl _ _) _⟩
  have hr : Aside0 ((w.alloc (.cells #[.string c, .string d, .int .i64 g, .int .i64 e, .int .i64 f] 23)).heap[w.heap.size]? = some (.cells #[.string c, .string d, .int .i64 g, .int .i64 e, .int .i64 f] 23 (0, 0))) := ⟨blk_new w _⟩
  clear h
  go_enter Try.func8, Try.ntmps8
  go_upto_region 1 with (fail)
  generalize w.alloc (.cells #[.string c, .string d, .int .i64 g, .int .i64 e, .int .i64 f] 23) = W at *
  have y0 := (blk_cell hr.out 0).trans (show _ = some (.string c) from rfl)
  have y1 := (blk_cell hr.out 1).trans (show _ = some (.string d) from rfl)
  have y2 := (blk_cell hr.out 2).trans (show _ = some (.int .i64 g) from rfl)
  have y3 := (blk_cell hr.out 3).trans (show _ = some (.int .i64 e) from rfl)
  have y4 := (blk_cell hr.out 4).trans (show _ = some (.int .i64 f) from rfl)
  go_upto_region 2 with (go_at_call 13; (with_reducible refine (hnew _).out.mono ?_); rintro e' w1 ⟨rfl, hb1⟩; replace hb1 := Aside0.mk hb1)
  clear y0 y1 y2 y3 y4
  have hr1 : Aside0 (w1.heap[w.heap.size]? = some (.cells #[.string c, .string d, .int .i64 g, .int .i64 e, .int .i64 f] 23 (0, 0))) := ⟨blk_below hr.out hb1.out⟩
  have y0 := (blk_cell hr1.out 0).trans (show _ = some (.string c) from rfl)
  have y1 := (blk_cell hr1.out 1).trans (show _ = some (.string d) from rfl)
  have y2 := (blk_cell hr1.out 2).trans (show _ = some (.int .i64 g) from rfl)
  have y3 := (blk_cell hr1.out 3).trans (show _ = some (.int .i64 e) from rfl)
  have y4 := (blk_cell hr1.out 4).trans (show _ = some (.int .i64 f) from rfl)
  go_upto_region 3 with (go_at_call 21; (with_reducible refine (hrnew _).out.mono ?_); rintro e' w2 ⟨rfl, hb2⟩; replace hb2 := Aside0.mk hb2)
  clear y0 y1 y2 y3 y4
  have hr2 : Aside0 (w2.heap[w.heap.size]? = some (.cells #[.string c, .string d, .int .i64 g, .int .i64 e, .int .i64 f] 23 (0, 0))) := ⟨blk_below hr1.out hb2.out⟩
  have hB2 : Aside0 (Below w.heap.size w w2) := ⟨below_step (below_step hb.out hb1.out) hb2.out⟩
  have hy : ∀ W' : World, W'.heap[w.heap.size]? = some (.cells #[.string c, .string d, .int .i64 g, .int .i64 e, .int .i64 f] 23 (0, 0)) → W'.cell? ⟨w.heap.size, 0, none⟩ = some (.string c) ∧ W'.cell? ⟨w.heap.size, 1, none⟩ = some (.string d) ∧ W'.cell? ⟨w.heap.size, 2, none⟩ = some (.int .i64 g) ∧ W'.cell? ⟨w.heap.size, 3, none⟩ = some (.int .i64 e) ∧ W'.cell? ⟨w.heap.size, 4, none⟩ = some (.int .i64 f) := fun W' h => ⟨(blk_cell h 0).trans rfl, (blk_cell h 1).trans rfl, (blk_cell h 2).trans rfl, (blk_cell h 3).trans rfl, (blk_cell h 4).trans rfl⟩
  obtain ⟨y0, y1, y2, y3, y4⟩ := hy _ hr2.out
  have hh : Below w2.heap.size w2 w2 := Below.refl _ _
  go_region_held3 (fun w' => Below w2.heap.size w2 w' ∧ w'.cell? ⟨w.heap.size, 0, none⟩ = some (.string c) ∧ w'.cell? ⟨w.heap.size, 1, none⟩ = some (.string d) ∧ w'.cell? ⟨w.heap.size, 2, none⟩ = some (.int .i64 g) ∧ w'.cell? ⟨w.heap.size, 3, none⟩ = some (.int .i64 e) ∧ w'.cell? ⟨w.heap.size, 4, none⟩ = some (.int .i64 f))
    (first | exact ⟨below_drew hh, y0, y1, y2, y3, y4⟩ | (go_split_ands; refine ⟨below_step ‹_› ‹_›, ?_, ?_, ?_, ?_, ?_⟩ <;> (rw [Below.cell ‹_› (Nat.lt_of_lt_of_le (blk_lt hr2.out) (Below.size ‹_›))]; assumption)))
    (first | (go_at_call 22; (with_reducible refine (hck _).out.mono ?_); rintro e' w' ⟨rfl, hb⟩) | (go_at_call 14; (with_reducible refine (hrk _).out.mono ?_); rintro e' w' ⟨rfl, hb⟩))
  go_split_ands
  rename_i bz z0 z1 z2 z3 z4
  have hB3 := Aside0.mk (below_step hB2.out bz)
  clear z0 z1 z2 z3 z4 y0 y1 y2 y3 y4 bz hh
  go_wp2_with (go_at_call 11; (with_reducible refine (awake _).mono ?_); rintro e' w5 ⟨rfl, hb5⟩; replace hb5 := Aside0.mk hb5)
  go_ret
  exact ⟨rfl, below_step hB3.out hb5.out⟩
set_option maxHeartbeats 8000000 in
set_option maxRecDepth 100000 in
theorem steps_long (c d : ByteArray) (g e f : Int) (inp : ByteArray) (n : Int) (w : World) (hi : inp.size ≤ 9223372036854775807) (h : mayI c d g e f = true) (hl : 1048576 < inp.size) :
    Calls Try.prog 8 #[imV c d g e f, .string inp, .int .u16 n] w fun e w' => e = .returned (.bool true) ∧ Below w.heap.size w w' := by
  have hnew := fun W => Aside0.mk (new_long c d g e f inp W hi h hl)
  have hrnew := fun W => Aside0.mk (rnew_long c d g e f inp W hi h hl)
  have hck := fun W => Aside0.mk (checkP c d g e f W)
  have hrk := fun W => Aside0.mk (chk14 c d g e f W)
  rw [h] at hck hrk
  replace hck : ∀ W : World, Aside0 (Calls Try.prog 22 #[imV c d g e f] W fun e' w' => e' = .returned (.int .i64 0) ∧ Below W.heap.size W w') := hck
  replace hrk : ∀ W : World, Aside0 (Calls Try.prog 14 #[imV c d g e f] W fun e' w' => e' = .returned (.int .i64 0) ∧ Below W.heap.size W w') := hrk
  have hb : Aside0 (Below w.heap.size w (w.alloc (.cells #[.string c, .string d, .int .i64 g, .int .i64 e, .int .i64 f] 23))) := ⟨below_alloc (Below.refl _ _) _⟩
  have hr : Aside0 ((w.alloc (.cells #[.string c, .string d, .int .i64 g, .int .i64 e, .int .i64 f] 23)).heap[w.heap.size]? = some (.cells #[.string c, .string d, .int .i64 g, .int .i64 e, .int .i64 f] 23 (0, 0))) := ⟨blk_new w _⟩
  clear h
  go_enter Try.func8, Try.ntmps8
  go_upto_region 1 with (fail)
  generalize w.alloc (.cells #[.string c, .string d, .int .i64 g, .int .i64 e, .int .i64 f] 23) = W at *
  have y0 := (blk_cell hr.out 0).trans (show _ = some (.string c) from rfl)
  have y1 := (blk_cell hr.out 1).trans (show _ = some (.string d) from rfl)
  have y2 := (blk_cell hr.out 2).trans (show _ = some (.int .i64 g) from rfl)
  have y3 := (blk_cell hr.out 3).trans (show _ = some (.int .i64 e) from rfl)
  have y4 := (blk_cell hr.out 4).trans (show _ = some (.int .i64 f) from rfl)
  go_upto_region 2 with (go_at_call 13; (with_reducible refine (hnew _).out.mono ?_); rintro e' w1 ⟨rfl, hb1⟩; replace hb1 := Aside0.mk hb1)
  clear y0 y1 y2 y3 y4
  have hr1 : Aside0 (w1.heap[w.heap.size]? = some (.cells #[.string c, .string d, .int .i64 g, .int .i64 e, .int .i64 f] 23 (0, 0))) := ⟨blk_below hr.out hb1.out⟩
  have y0 := (blk_cell hr1.out 0).trans (show _ = some (.string c) from rfl)
  have y1 := (blk_cell hr1.out 1).trans (show _ = some (.string d) from rfl)
  have y2 := (blk_cell hr1.out 2).trans (show _ = some (.int .i64 g) from rfl)
  have y3 := (blk_cell hr1.out 3).trans (show _ = some (.int .i64 e) from rfl)
  have y4 := (blk_cell hr1.out 4).trans (show _ = some (.int .i64 f) from rfl)
  go_upto_region 3 with (go_at_call 21; (with_reducible refine (hrnew _).out.mono ?_); rintro e' w2 ⟨rfl, hb2⟩; replace hb2 := Aside0.mk hb2)
  clear y0 y1 y2 y3 y4
  have hr2 : Aside0 (w2.heap[w.heap.size]? = some (.cells #[.string c, .string d, .int .i64 g, .int .i64 e, .int .i64 f] 23 (0, 0))) := ⟨blk_below hr1.out hb2.out⟩
  have hB2 : Aside0 (Below w.heap.size w w2) := ⟨below_step (below_step hb.out hb1.out) hb2.out⟩
  have hy : ∀ W' : World, W'.heap[w.heap.size]? = some (.cells #[.string c, .string d, .int .i64 g, .int .i64 e, .int .i64 f] 23 (0, 0)) → W'.cell? ⟨w.heap.size, 0, none⟩ = some (.string c) ∧ W'.cell? ⟨w.heap.size, 1, none⟩ = some (.string d) ∧ W'.cell? ⟨w.heap.size, 2, none⟩ = some (.int .i64 g) ∧ W'.cell? ⟨w.heap.size, 3, none⟩ = some (.int .i64 e) ∧ W'.cell? ⟨w.heap.size, 4, none⟩ = some (.int .i64 f) := fun W' h => ⟨(blk_cell h 0).trans rfl, (blk_cell h 1).trans rfl, (blk_cell h 2).trans rfl, (blk_cell h 3).trans rfl, (blk_cell h 4).trans rfl⟩
  obtain ⟨y0, y1, y2, y3, y4⟩ := hy _ hr2.out
  have hh : Below w2.heap.size w2 w2 := Below.refl _ _
  go_region_held3 (fun w' => Below w2.heap.size w2 w' ∧ w'.cell? ⟨w.heap.size, 0, none⟩ = some (.string c) ∧ w'.cell? ⟨w.heap.size, 1, none⟩ = some (.string d) ∧ w'.cell? ⟨w.heap.size, 2, none⟩ = some (.int .i64 g) ∧ w'.cell? ⟨w.heap.size, 3, none⟩ = some (.int .i64 e) ∧ w'.cell? ⟨w.heap.size, 4, none⟩ = some (.int .i64 f))
    (first | exact ⟨below_drew hh, y0, y1, y2, y3, y4⟩ | (go_split_ands; refine ⟨below_step ‹_› ‹_›, ?_, ?_, ?_, ?_, ?_⟩ <;> (rw [Below.cell ‹_› (Nat.lt_of_lt_of_le (blk_lt hr2.out) (Below.size ‹_›))]; assumption)))
    (first | (go_at_call 22; (with_reducible refine (hck _).out.mono ?_); rintro e' w' ⟨rfl, hb⟩) | (go_at_call 14; (with_reducible refine (hrk _).out.mono ?_); rintro e' w' ⟨rfl, hb⟩))
  go_split_ands
  rename_i bz z0 z1 z2 z3 z4
  have hB3 := Aside0.mk (below_step hB2.out bz)
  clear z0 z1 z2 z3 z4 y0 y1 y2 y3 y4 bz hh
  go_wp2_with (go_at_call 11; (with_reducible refine (awake _).mono ?_); rintro e' w5 ⟨rfl, hb5⟩; replace hb5 := Aside0.mk hb5)
  go_ret
  exact ⟨rfl, below_step hB3.out hb5.out⟩
theorem steps (c d : ByteArray) (g e f : Int) (inp : ByteArray) (n : Int) (n0 : 0 ≤ n) (n1 : n ≤ 65535) (w : World) (hi : inp.size ≤ 9223372036854775807) :
    Calls Try.prog 8 #[imV c d g e f, .string inp, .int .u16 n] w fun e w' => e = .returned (.bool true) ∧ Below w.heap.size w w' := by
  by_cases h : mayI c d g e f = false
  · exact steps_bad c d g e f inp n w hi h
  · have h' : mayI c d g e f = true := by simpa using h
    by_cases hl : 1048576 < inp.size
    · exact steps_long c d g e f inp n w hi h' hl
    · exact steps_good c d g e f inp n n0 n1 w h' (by omega)
end Go.Proofs.Ytbhkfdjofopfkaa.MemA
