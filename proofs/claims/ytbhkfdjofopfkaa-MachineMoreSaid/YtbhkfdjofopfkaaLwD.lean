/- More fuel leads on from where less fuel ended: the walk of the law. -/
import Derived.Test.YtbhkfdjofopfkaaMaO
namespace Go.Proofs.Ytbhkfdjofopfkaa.MemA
open Go.RowKit Go.Proofs.YtbhkfdjofopfkaaW.PrintWords Go.Proofs.YtbhkfdjofopfkaaW.PrintLast
set_option linter.unusedVariables false
set_option linter.unusedSimpArgs false
/-- What a step does to what was put, read, and to how it ended. -/
structure Gr (s s' : Mc) : Prop where
  out : ∃ t, s'.out = s.out ++ t
  used : s.used ≤ s'.used
  kd : (s.ended = true → s.kind ≠ 3) → s'.ended = true → s'.kind ≠ 3
theorem Gr.refl (s : Mc) : Gr s s := ⟨⟨[], by simp⟩, Nat.le_refl _, id⟩
theorem Gr.trans {a b c : Mc} (h : Gr a b) (k : Gr b c) : Gr a c := by
  obtain ⟨t, ht⟩ := h.out
  obtain ⟨u, hu⟩ := k.out
  exact ⟨⟨t ++ u, by rw [hu, ht, List.append_assoc]⟩, Nat.le_trans h.used k.used, fun q => k.kd (h.kd q)⟩
theorem Gr.ite {s A B : Mc} {c : Prop} [Decidable c] (ha : Gr s A) (hb : Gr s B) : Gr s (if c then A else B) := by split <;> assumption
theorem Gr.like {s s' : Mc} (ho : s'.out = s.out) (hu : s'.used = s.used) (he : s'.ended = s.ended) (hk : s'.kind = s.kind) : Gr s s' := ⟨⟨[], by rw [ho]; simp⟩, by rw [hu]; exact Nat.le_refl _, fun q => by rw [he, hk]; exact q⟩
theorem Gr.setR (s : Mc) (d : Nat) (x : Int) : Gr s (s.setR d x) := by
  unfold Mc.setR
  split
  · exact Gr.refl s
  · exact Gr.like rfl rfl rfl rfl
theorem Gr.getS (s : Mc) : Gr s s.getS := by
  unfold Mc.getS
  split
  · exact ⟨⟨[], by simp⟩, Nat.le_succ _, id⟩
  · exact Gr.refl s
theorem Gr.jump {s s' : Mc} (h : Gr s s') (n : Int) : Gr s (s'.jump n) := ⟨h.out, h.used, h.kd⟩
theorem Gr.trapK {s s' : Mc} (h : Gr s s') (n : Int) : Gr s (s'.trapK n) := ⟨h.out, h.used, fun _ _ => by show (2 : Int) ≠ 3; decide⟩
theorem Gr.msS (s : Mc) (op : Int) (d a : Nat) (i : Int) : Gr s (s.msS op d a i) := by
  unfold Mc.msS Mc.st4 Mc.st1
  repeat' split
  all_goals first | exact Gr.setR _ _ _ | exact Gr.like rfl rfl rfl rfl
theorem Gr.exec (s : Mc) (x : In) : Gr s (s.exec x) := by
  unfold Mc.exec
  repeat (first
    | exact (Gr.setR _ _ _).jump _
    | exact ((Gr.getS s).trans (Gr.setR _ _ _)).jump _
    | exact (Gr.msS s _ _ _ _).jump _
    | exact (Gr.msS s _ _ _ _).trapK _
    | exact (Gr.refl s).jump _
    | exact (Gr.refl s).trapK _
    | exact (show Gr s _ from ⟨⟨_, rfl⟩, Nat.le_refl _, id⟩)
    | exact (show Gr s _ from ⟨⟨[], by simp⟩, Nat.le_refl _, fun _ _ => by show (1 : Int) ≠ 3; decide⟩)
    | refine Gr.ite ?_ ?_)
theorem Gr.step (s : Mc) : Gr s s.step := by
  unfold Mc.step
  split
  · exact Gr.refl s
  · split
    · exact (Gr.refl s).trapK _
    · exact Gr.exec _ _
theorem Gr.stepN (s : Mc) : ∀ n, Gr s (s.stepN n)
  | 0 => Gr.refl s
  | n + 1 => (Gr.stepN s n).trans (Gr.step _)
theorem stepN_add (s : Mc) (n : Nat) : ∀ k, s.stepN (n + k) = (s.stepN n).stepN k
  | 0 => rfl
  | k + 1 => by show (s.stepN (n + k)).step = _; rw [stepN_add s n k]; rfl
theorem strOfNums_append (a b : List Int) : strOfNums (a ++ b) = strOfNums a ++ strOfNums b := by
  apply ByteArray.ext
  simp [strOfNums]

set_option maxHeartbeats 8000000 in
set_option maxRecDepth 100000 in
theorem more_err (c d : ByteArray) (g e f : Int) (inp : ByteArray) (n0 n1 : Int) (b00 : 0 ≤ n0) (b01 : n0 ≤ 65535) (b10 : 0 ≤ n1) (b11 : n1 ≤ 65535) (w : World) (a1 a2 a3 : Int) (a4 : ByteArray) (a5 : Int) (er : Int) (q0 : (er == 0) = false) (q1 : (er != 0) = true) (hP : ∀ W, Aside0 (Calls Try.prog 9 #[imV c d g e f, .string inp, .int .i64 (n0 % 3000)] W (RunP (.agg #[.int .i64 a1, .int .i32 a2, .int .i64 a3, .string a4, .int .i64 a5]) er W))) (hQ : ∀ W, Aside0 (Calls Try.prog 9 #[imV c d g e f, .string inp, .int .i64 (n0 % 3000 + n1 % 3000)] W (RunP (.agg #[.int .i64 a1, .int .i32 a2, .int .i64 a3, .string a4, .int .i64 a5]) er W))) :
    Calls Try.prog 5 #[imV c d g e f, .string inp, .agg #[.int .u16 n0, .int .u16 n1]] w fun e w' => e = .returned (.bool true) ∧ Below w.heap.size w w' := by
  have hb : Aside0 (Below w.heap.size w ((w.alloc (.cells #[.string c, .string d, .int .i64 g, .int .i64 e, .int .i64 f] 23)).alloc (.cells #[.int .u16 n0, .int .u16 n1] 34))) := ⟨below_alloc (below_alloc (Below.refl _ _) _) _⟩
  have hr : Aside0 (((w.alloc (.cells #[.string c, .string d, .int .i64 g, .int .i64 e, .int .i64 f] 23)).alloc (.cells #[.int .u16 n0, .int .u16 n1] 34)).heap[w.heap.size]? = some (.cells #[.string c, .string d, .int .i64 g, .int .i64 e, .int .i64 f] 23 (0, 0))) := ⟨blk_alloc (blk_new w _) _⟩
  have hz : Aside0 (((w.alloc (.cells #[.string c, .string d, .int .i64 g, .int .i64 e, .int .i64 f] 23)).alloc (.cells #[.int .u16 n0, .int .u16 n1] 34)).heap[w.heap.size + 1]? = some (.cells #[.int .u16 n0, .int .u16 n1] 34 (0, 0))) := ⟨by have := blk_new (w.alloc (.cells #[.string c, .string d, .int .i64 g, .int .i64 e, .int .i64 f] 23)) (.cells #[.int .u16 n0, .int .u16 n1] 34); simpa using this⟩
  go_enter Try.func5, Try.ntmps5
  go_upto_region 1 with (fail)
  generalize (w.alloc (.cells #[.string c, .string d, .int .i64 g, .int .i64 e, .int .i64 f] 23)).alloc (.cells #[.int .u16 n0, .int .u16 n1] 34) = W at *
  have y0 := (blk_cell hr.out 0).trans (show _ = some (.string c) from rfl)
  have y1 := (blk_cell hr.out 1).trans (show _ = some (.string d) from rfl)
  have y2 := (blk_cell hr.out 2).trans (show _ = some (.int .i64 g) from rfl)
  have y3 := (blk_cell hr.out 3).trans (show _ = some (.int .i64 e) from rfl)
  have y4 := (blk_cell hr.out 4).trans (show _ = some (.int .i64 f) from rfl)
  have x0 := (blk_cell hz.out 0).trans (show _ = some (.int .u16 n0) from rfl)
  have x1 := (blk_cell hz.out 1).trans (show _ = some (.int .u16 n1) from rfl)
  go_upto_region 3 with (go_at_call 9; (with_reducible refine (hP _).out.mono ?_); rintro e' w1 ⟨rfl, hb1⟩; replace hb1 := Aside0.mk hb1)
  clear y0 y1 y2 y3 y4 x0 x1
  have hb2 : Aside0 (Below w.heap.size w (w1.alloc (.cells #[.int .i64 a1, .int .i32 a2, .int .i64 a3, .string a4, .int .i64 a5] 25))) := ⟨below_alloc (below_step hb.out hb1.out) _⟩
  have hr2 : Aside0 ((w1.alloc (.cells #[.int .i64 a1, .int .i32 a2, .int .i64 a3, .string a4, .int .i64 a5] 25)).heap[w.heap.size]? = some (.cells #[.string c, .string d, .int .i64 g, .int .i64 e, .int .i64 f] 23 (0, 0))) := ⟨blk_alloc (blk_below hr.out hb1.out) _⟩
  have hz2 : Aside0 ((w1.alloc (.cells #[.int .i64 a1, .int .i32 a2, .int .i64 a3, .string a4, .int .i64 a5] 25)).heap[w.heap.size + 1]? = some (.cells #[.int .u16 n0, .int .u16 n1] 34 (0, 0))) := ⟨blk_alloc (blk_below hz.out hb1.out) _⟩
  have ha2 : Aside0 ((w1.alloc (.cells #[.int .i64 a1, .int .i32 a2, .int .i64 a3, .string a4, .int .i64 a5] 25)).heap[w1.heap.size]? = some (.cells #[.int .i64 a1, .int .i32 a2, .int .i64 a3, .string a4, .int .i64 a5] 25 (0, 0))) := ⟨blk_new _ _⟩
  generalize w1.alloc (.cells #[.int .i64 a1, .int .i32 a2, .int .i64 a3, .string a4, .int .i64 a5] 25) = W2 at *
  generalize w1.heap.size = pa at *
  clear hb1 hb hr hz
  have y0 := (blk_cell hr2.out 0).trans (show _ = some (.string c) from rfl)
  have y1 := (blk_cell hr2.out 1).trans (show _ = some (.string d) from rfl)
  have y2 := (blk_cell hr2.out 2).trans (show _ = some (.int .i64 g) from rfl)
  have y3 := (blk_cell hr2.out 3).trans (show _ = some (.int .i64 e) from rfl)
  have y4 := (blk_cell hr2.out 4).trans (show _ = some (.int .i64 f) from rfl)
  have x0 := (blk_cell hz2.out 0).trans (show _ = some (.int .u16 n0) from rfl)
  have x1 := (blk_cell hz2.out 1).trans (show _ = some (.int .u16 n1) from rfl)
  go_upto_region 4 with (go_at_call 9; (with_reducible refine (hQ _).out.mono ?_); rintro e' w3 ⟨rfl, hb3⟩; replace hb3 := Aside0.mk hb3)
  clear y0 y1 y2 y3 y4 x0 x1
  have hb4 : Aside0 (Below w.heap.size w (w3.alloc (.cells #[.int .i64 a1, .int .i32 a2, .int .i64 a3, .string a4, .int .i64 a5] 25))) := ⟨below_alloc (below_step hb2.out hb3.out) _⟩
  have ha4 : Aside0 ((w3.alloc (.cells #[.int .i64 a1, .int .i32 a2, .int .i64 a3, .string a4, .int .i64 a5] 25)).heap[pa]? = some (.cells #[.int .i64 a1, .int .i32 a2, .int .i64 a3, .string a4, .int .i64 a5] 25 (0, 0))) := ⟨blk_alloc (blk_below ha2.out hb3.out) _⟩
  have hc4 : Aside0 ((w3.alloc (.cells #[.int .i64 a1, .int .i32 a2, .int .i64 a3, .string a4, .int .i64 a5] 25)).heap[w3.heap.size]? = some (.cells #[.int .i64 a1, .int .i32 a2, .int .i64 a3, .string a4, .int .i64 a5] 25 (0, 0))) := ⟨blk_new _ _⟩
  generalize w3.alloc (.cells #[.int .i64 a1, .int .i32 a2, .int .i64 a3, .string a4, .int .i64 a5] 25) = W4 at *
  generalize w3.heap.size = pc at *
  clear hb3 hb2 hr2 ha2 hz2
  have x0 := (blk_cell ha4.out 0).trans (show _ = some (.int .i64 a1) from rfl)
  have x1 := (blk_cell ha4.out 1).trans (show _ = some (.int .i32 a2) from rfl)
  have x2 := (blk_cell ha4.out 2).trans (show _ = some (.int .i64 a3) from rfl)
  have x3 := (blk_cell ha4.out 3).trans (show _ = some (.string a4) from rfl)
  have x4 := (blk_cell ha4.out 4).trans (show _ = some (.int .i64 a5) from rfl)
  have z0 := (blk_cell hc4.out 0).trans (show _ = some (.int .i64 a1) from rfl)
  have z1 := (blk_cell hc4.out 1).trans (show _ = some (.int .i32 a2) from rfl)
  have z2 := (blk_cell hc4.out 2).trans (show _ = some (.int .i64 a3) from rfl)
  have z3 := (blk_cell hc4.out 3).trans (show _ = some (.string a4) from rfl)
  have z4 := (blk_cell hc4.out 4).trans (show _ = some (.int .i64 a5) from rfl)
  go_wp2_with (go_at_call 11; (with_reducible refine (awake _).mono ?_); rintro e' w5 ⟨rfl, hb5⟩; replace hb5 := Aside0.mk hb5)
  go_ret
  exact ⟨rfl, below_step hb4.out hb5.out⟩
set_option maxHeartbeats 8000000 in
set_option maxRecDepth 100000 in
theorem more_done (c d : ByteArray) (g e f : Int) (inp : ByteArray) (n0 n1 : Int) (b00 : 0 ≤ n0) (b01 : n0 ≤ 65535) (b10 : 0 ≤ n1) (b11 : n1 ≤ 65535) (w : World) (a1 a2 a3 : Int) (a4 : ByteArray) (a5 : Int) (q0 : (a1 == 3) = false) (q1 : (a1 != 3) = true) (hP : ∀ W, Aside0 (Calls Try.prog 9 #[imV c d g e f, .string inp, .int .i64 (n0 % 3000)] W (RunP (.agg #[.int .i64 a1, .int .i32 a2, .int .i64 a3, .string a4, .int .i64 a5]) 0 W))) (hQ : ∀ W, Aside0 (Calls Try.prog 9 #[imV c d g e f, .string inp, .int .i64 (n0 % 3000 + n1 % 3000)] W (RunP (.agg #[.int .i64 a1, .int .i32 a2, .int .i64 a3, .string a4, .int .i64 a5]) 0 W))) :
    Calls Try.prog 5 #[imV c d g e f, .string inp, .agg #[.int .u16 n0, .int .u16 n1]] w fun e w' => e = .returned (.bool true) ∧ Below w.heap.size w w' := by
  have hb : Aside0 (Below w.heap.size w ((w.alloc (.cells #[.string c, .string d, .int .i64 g, .int .i64 e, .int .i64 f] 23)).alloc (.cells #[.int .u16 n0, .int .u16 n1] 34))) := ⟨below_alloc (below_alloc (Below.refl _ _) _) _⟩
  have hr : Aside0 (((w.alloc (.cells #[.string c, .string d, .int .i64 g, .int .i64 e, .int .i64 f] 23)).alloc (.cells #[.int .u16 n0, .int .u16 n1] 34)).heap[w.heap.size]? = some (.cells #[.string c, .string d, .int .i64 g, .int .i64 e, .int .i64 f] 23 (0, 0))) := ⟨blk_alloc (blk_new w _) _⟩
  have hz : Aside0 (((w.alloc (.cells #[.string c, .string d, .int .i64 g, .int .i64 e, .int .i64 f] 23)).alloc (.cells #[.int .u16 n0, .int .u16 n1] 34)).heap[w.heap.size + 1]? = some (.cells #[.int .u16 n0, .int .u16 n1] 34 (0, 0))) := ⟨by have := blk_new (w.alloc (.cells #[.string c, .string d, .int .i64 g, .int .i64 e, .int .i64 f] 23)) (.cells #[.int .u16 n0, .int .u16 n1] 34); simpa using this⟩
  go_enter Try.func5, Try.ntmps5
  go_upto_region 1 with (fail)
  generalize (w.alloc (.cells #[.string c, .string d, .int .i64 g, .int .i64 e, .int .i64 f] 23)).alloc (.cells #[.int .u16 n0, .int .u16 n1] 34) = W at *
  have y0 := (blk_cell hr.out 0).trans (show _ = some (.string c) from rfl)
  have y1 := (blk_cell hr.out 1).trans (show _ = some (.string d) from rfl)
  have y2 := (blk_cell hr.out 2).trans (show _ = some (.int .i64 g) from rfl)
  have y3 := (blk_cell hr.out 3).trans (show _ = some (.int .i64 e) from rfl)
  have y4 := (blk_cell hr.out 4).trans (show _ = some (.int .i64 f) from rfl)
  have x0 := (blk_cell hz.out 0).trans (show _ = some (.int .u16 n0) from rfl)
  have x1 := (blk_cell hz.out 1).trans (show _ = some (.int .u16 n1) from rfl)
  go_upto_region 3 with (go_at_call 9; (with_reducible refine (hP _).out.mono ?_); rintro e' w1 ⟨rfl, hb1⟩; replace hb1 := Aside0.mk hb1)
  clear y0 y1 y2 y3 y4 x0 x1
  have hb2 : Aside0 (Below w.heap.size w (w1.alloc (.cells #[.int .i64 a1, .int .i32 a2, .int .i64 a3, .string a4, .int .i64 a5] 25))) := ⟨below_alloc (below_step hb.out hb1.out) _⟩
  have hr2 : Aside0 ((w1.alloc (.cells #[.int .i64 a1, .int .i32 a2, .int .i64 a3, .string a4, .int .i64 a5] 25)).heap[w.heap.size]? = some (.cells #[.string c, .string d, .int .i64 g, .int .i64 e, .int .i64 f] 23 (0, 0))) := ⟨blk_alloc (blk_below hr.out hb1.out) _⟩
  have hz2 : Aside0 ((w1.alloc (.cells #[.int .i64 a1, .int .i32 a2, .int .i64 a3, .string a4, .int .i64 a5] 25)).heap[w.heap.size + 1]? = some (.cells #[.int .u16 n0, .int .u16 n1] 34 (0, 0))) := ⟨blk_alloc (blk_below hz.out hb1.out) _⟩
  have ha2 : Aside0 ((w1.alloc (.cells #[.int .i64 a1, .int .i32 a2, .int .i64 a3, .string a4, .int .i64 a5] 25)).heap[w1.heap.size]? = some (.cells #[.int .i64 a1, .int .i32 a2, .int .i64 a3, .string a4, .int .i64 a5] 25 (0, 0))) := ⟨blk_new _ _⟩
  generalize w1.alloc (.cells #[.int .i64 a1, .int .i32 a2, .int .i64 a3, .string a4, .int .i64 a5] 25) = W2 at *
  generalize w1.heap.size = pa at *
  clear hb1 hb hr hz
  have y0 := (blk_cell hr2.out 0).trans (show _ = some (.string c) from rfl)
  have y1 := (blk_cell hr2.out 1).trans (show _ = some (.string d) from rfl)
  have y2 := (blk_cell hr2.out 2).trans (show _ = some (.int .i64 g) from rfl)
  have y3 := (blk_cell hr2.out 3).trans (show _ = some (.int .i64 e) from rfl)
  have y4 := (blk_cell hr2.out 4).trans (show _ = some (.int .i64 f) from rfl)
  have x0 := (blk_cell hz2.out 0).trans (show _ = some (.int .u16 n0) from rfl)
  have x1 := (blk_cell hz2.out 1).trans (show _ = some (.int .u16 n1) from rfl)
  go_upto_region 4 with (go_at_call 9; (with_reducible refine (hQ _).out.mono ?_); rintro e' w3 ⟨rfl, hb3⟩; replace hb3 := Aside0.mk hb3)
  clear y0 y1 y2 y3 y4 x0 x1
  have hb4 : Aside0 (Below w.heap.size w (w3.alloc (.cells #[.int .i64 a1, .int .i32 a2, .int .i64 a3, .string a4, .int .i64 a5] 25))) := ⟨below_alloc (below_step hb2.out hb3.out) _⟩
  have ha4 : Aside0 ((w3.alloc (.cells #[.int .i64 a1, .int .i32 a2, .int .i64 a3, .string a4, .int .i64 a5] 25)).heap[pa]? = some (.cells #[.int .i64 a1, .int .i32 a2, .int .i64 a3, .string a4, .int .i64 a5] 25 (0, 0))) := ⟨blk_alloc (blk_below ha2.out hb3.out) _⟩
  have hc4 : Aside0 ((w3.alloc (.cells #[.int .i64 a1, .int .i32 a2, .int .i64 a3, .string a4, .int .i64 a5] 25)).heap[w3.heap.size]? = some (.cells #[.int .i64 a1, .int .i32 a2, .int .i64 a3, .string a4, .int .i64 a5] 25 (0, 0))) := ⟨blk_new _ _⟩
  generalize w3.alloc (.cells #[.int .i64 a1, .int .i32 a2, .int .i64 a3, .string a4, .int .i64 a5] 25) = W4 at *
  generalize w3.heap.size = pc at *
  clear hb3 hb2 hr2 ha2 hz2
  have x0 := (blk_cell ha4.out 0).trans (show _ = some (.int .i64 a1) from rfl)
  have x1 := (blk_cell ha4.out 1).trans (show _ = some (.int .i32 a2) from rfl)
  have x2 := (blk_cell ha4.out 2).trans (show _ = some (.int .i64 a3) from rfl)
  have x3 := (blk_cell ha4.out 3).trans (show _ = some (.string a4) from rfl)
  have x4 := (blk_cell ha4.out 4).trans (show _ = some (.int .i64 a5) from rfl)
  have z0 := (blk_cell hc4.out 0).trans (show _ = some (.int .i64 a1) from rfl)
  have z1 := (blk_cell hc4.out 1).trans (show _ = some (.int .i32 a2) from rfl)
  have z2 := (blk_cell hc4.out 2).trans (show _ = some (.int .i64 a3) from rfl)
  have z3 := (blk_cell hc4.out 3).trans (show _ = some (.string a4) from rfl)
  have z4 := (blk_cell hc4.out 4).trans (show _ = some (.int .i64 a5) from rfl)
  go_wp2_with (go_at_call 11; (with_reducible refine (awake _).mono ?_); rintro e' w5 ⟨rfl, hb5⟩; replace hb5 := Aside0.mk hb5)
  go_ret
  exact ⟨rfl, below_step hb4.out hb5.out⟩
theorem ext_app (a b : ByteArray) : (a ++ b).extract 0 a.size = a := by
  apply ByteArray.ext_getElem
  · rw [ByteArray.size_extract, ByteArray.size_append]; omega
  · intro i h1 h2
    rw [ByteArray.getElem_extract, ByteArray.getElem_append_left (by omega)]
    simp
set_option maxHeartbeats 4000000 in
set_option maxRecDepth 100000 in
theorem pre_ (a b : ByteArray) (w : World) : Calls Try.prog 12 #[.string (a ++ b), .string a] w fun e w' => e = .returned (.bool true) ∧ w = w' := by
  have hs : (a ++ b).size = a.size + b.size := ByteArray.size_append
  have hx : Aside0 ((a ++ b).extract 0 a.size = a) := ⟨ext_app a b⟩
  have h27 : ∀ W, Aside0 (Calls Try.prog 27 #[.string (a ++ b), .string a] W fun e w' => e = .returned (.bool true) ∧ W = w') := fun W => by
    refine ⟨?_⟩
    generalize a ++ b = ab at *
    have h0 : (a.size : Int) ≤ (ab.size : Int) := by omega
    go_enter Try.func27, Try.ntmps27
    go_wp2_with fail
    go_ret
    exact ⟨by rw [hx.out]; simp, rfl⟩
  go_enter Try.func12, Try.ntmps12
  go_wp2_with (go_at_call 27; (with_reducible refine (h27 _).out.mono ?_); rintro e' w5 ⟨rfl, rfl⟩)
  go_ret
  exact ⟨rfl, rfl⟩
set_option maxHeartbeats 8000000 in
set_option maxRecDepth 100000 in
theorem more_on (c d : ByteArray) (g e f : Int) (inp : ByteArray) (n0 n1 : Int) (b00 : 0 ≤ n0) (b01 : n0 ≤ 65535) (b10 : 0 ≤ n1) (b11 : n1 ≤ 65535) (w : World) (a4 b4 : ByteArray) (a5 : Int) (c1 c2 c3 : Int) (c5 : Int) (hu : a5 ≤ c5) (hP : ∀ W, Aside0 (Calls Try.prog 9 #[imV c d g e f, .string inp, .int .i64 (n0 % 3000)] W (RunP (.agg #[.int .i64 3, .int .i32 0, .int .i64 0, .string a4, .int .i64 a5]) 0 W))) (hQ : ∀ W, Aside0 (Calls Try.prog 9 #[imV c d g e f, .string inp, .int .i64 (n0 % 3000 + n1 % 3000)] W (RunP (.agg #[.int .i64 c1, .int .i32 c2, .int .i64 c3, .string (a4 ++ b4), .int .i64 c5]) 0 W))) :
    Calls Try.prog 5 #[imV c d g e f, .string inp, .agg #[.int .u16 n0, .int .u16 n1]] w fun e w' => e = .returned (.bool true) ∧ Below w.heap.size w w' := by
  have hb : Aside0 (Below w.heap.size w ((w.alloc (.cells #[.string c, .string d, .int .i64 g, .int .i64 e, .int .i64 f] 23)).alloc (.cells #[.int .u16 n0, .int .u16 n1] 34))) := ⟨below_alloc (below_alloc (Below.refl _ _) _) _⟩
  have hr : Aside0 (((w.alloc (.cells #[.string c, .string d, .int .i64 g, .int .i64 e, .int .i64 f] 23)).alloc (.cells #[.int .u16 n0, .int .u16 n1] 34)).heap[w.heap.size]? = some (.cells #[.string c, .string d, .int .i64 g, .int .i64 e, .int .i64 f] 23 (0, 0))) := ⟨blk_alloc (blk_new w _) _⟩
  have hz : Aside0 (((w.alloc (.cells #[.string c, .string d, .int .i64 g, .int .i64 e, .int .i64 f] 23)).alloc (.cells #[.int .u16 n0, .int .u16 n1] 34)).heap[w.heap.size + 1]? = some (.cells #[.int .u16 n0, .int .u16 n1] 34 (0, 0))) := ⟨by have := blk_new (w.alloc (.cells #[.string c, .string d, .int .i64 g, .int .i64 e, .int .i64 f] 23)) (.cells #[.int .u16 n0, .int .u16 n1] 34); simpa using this⟩
  go_enter Try.func5, Try.ntmps5
  go_upto_region 1 with (fail)
  generalize (w.alloc (.cells #[.string c, .string d, .int .i64 g, .int .i64 e, .int .i64 f] 23)).alloc (.cells #[.int .u16 n0, .int .u16 n1] 34) = W at *
  have y0 := (blk_cell hr.out 0).trans (show _ = some (.string c) from rfl)
  have y1 := (blk_cell hr.out 1).trans (show _ = some (.string d) from rfl)
  have y2 := (blk_cell hr.out 2).trans (show _ = some (.int .i64 g) from rfl)
  have y3 := (blk_cell hr.out 3).trans (show _ = some (.int .i64 e) from rfl)
  have y4 := (blk_cell hr.out 4).trans (show _ = some (.int .i64 f) from rfl)
  have x0 := (blk_cell hz.out 0).trans (show _ = some (.int .u16 n0) from rfl)
  have x1 := (blk_cell hz.out 1).trans (show _ = some (.int .u16 n1) from rfl)
  go_upto_region 3 with (go_at_call 9; (with_reducible refine (hP _).out.mono ?_); rintro e' w1 ⟨rfl, hb1⟩; replace hb1 := Aside0.mk hb1)
  clear y0 y1 y2 y3 y4 x0 x1
  have hb2 : Aside0 (Below w.heap.size w (w1.alloc (.cells #[.int .i64 3, .int .i32 0, .int .i64 0, .string a4, .int .i64 a5] 25))) := ⟨below_alloc (below_step hb.out hb1.out) _⟩
  have hr2 : Aside0 ((w1.alloc (.cells #[.int .i64 3, .int .i32 0, .int .i64 0, .string a4, .int .i64 a5] 25)).heap[w.heap.size]? = some (.cells #[.string c, .string d, .int .i64 g, .int .i64 e, .int .i64 f] 23 (0, 0))) := ⟨blk_alloc (blk_below hr.out hb1.out) _⟩
  have hz2 : Aside0 ((w1.alloc (.cells #[.int .i64 3, .int .i32 0, .int .i64 0, .string a4, .int .i64 a5] 25)).heap[w.heap.size + 1]? = some (.cells #[.int .u16 n0, .int .u16 n1] 34 (0, 0))) := ⟨blk_alloc (blk_below hz.out hb1.out) _⟩
  have ha2 : Aside0 ((w1.alloc (.cells #[.int .i64 3, .int .i32 0, .int .i64 0, .string a4, .int .i64 a5] 25)).heap[w1.heap.size]? = some (.cells #[.int .i64 3, .int .i32 0, .int .i64 0, .string a4, .int .i64 a5] 25 (0, 0))) := ⟨blk_new _ _⟩
  generalize w1.alloc (.cells #[.int .i64 3, .int .i32 0, .int .i64 0, .string a4, .int .i64 a5] 25) = W2 at *
  generalize w1.heap.size = pa at *
  clear hb1 hb hr hz
  have y0 := (blk_cell hr2.out 0).trans (show _ = some (.string c) from rfl)
  have y1 := (blk_cell hr2.out 1).trans (show _ = some (.string d) from rfl)
  have y2 := (blk_cell hr2.out 2).trans (show _ = some (.int .i64 g) from rfl)
  have y3 := (blk_cell hr2.out 3).trans (show _ = some (.int .i64 e) from rfl)
  have y4 := (blk_cell hr2.out 4).trans (show _ = some (.int .i64 f) from rfl)
  have x0 := (blk_cell hz2.out 0).trans (show _ = some (.int .u16 n0) from rfl)
  have x1 := (blk_cell hz2.out 1).trans (show _ = some (.int .u16 n1) from rfl)
  go_upto_region 4 with (go_at_call 9; (with_reducible refine (hQ _).out.mono ?_); rintro e' w3 ⟨rfl, hb3⟩; replace hb3 := Aside0.mk hb3)
  clear y0 y1 y2 y3 y4 x0 x1
  have hb4 : Aside0 (Below w.heap.size w (w3.alloc (.cells #[.int .i64 c1, .int .i32 c2, .int .i64 c3, .string (a4 ++ b4), .int .i64 c5] 25))) := ⟨below_alloc (below_step hb2.out hb3.out) _⟩
  have ha4 : Aside0 ((w3.alloc (.cells #[.int .i64 c1, .int .i32 c2, .int .i64 c3, .string (a4 ++ b4), .int .i64 c5] 25)).heap[pa]? = some (.cells #[.int .i64 3, .int .i32 0, .int .i64 0, .string a4, .int .i64 a5] 25 (0, 0))) := ⟨blk_alloc (blk_below ha2.out hb3.out) _⟩
  have hc4 : Aside0 ((w3.alloc (.cells #[.int .i64 c1, .int .i32 c2, .int .i64 c3, .string (a4 ++ b4), .int .i64 c5] 25)).heap[w3.heap.size]? = some (.cells #[.int .i64 c1, .int .i32 c2, .int .i64 c3, .string (a4 ++ b4), .int .i64 c5] 25 (0, 0))) := ⟨blk_new _ _⟩
  generalize w3.alloc (.cells #[.int .i64 c1, .int .i32 c2, .int .i64 c3, .string (a4 ++ b4), .int .i64 c5] 25) = W4 at *
  generalize w3.heap.size = pc at *
  clear hb3 hb2 hr2 ha2 hz2
  have x0 := (blk_cell ha4.out 0).trans (show _ = some (.int .i64 3) from rfl)
  have x1 := (blk_cell ha4.out 1).trans (show _ = some (.int .i32 0) from rfl)
  have x2 := (blk_cell ha4.out 2).trans (show _ = some (.int .i64 0) from rfl)
  have x3 := (blk_cell ha4.out 3).trans (show _ = some (.string a4) from rfl)
  have x4 := (blk_cell ha4.out 4).trans (show _ = some (.int .i64 a5) from rfl)
  have z0 := (blk_cell hc4.out 0).trans (show _ = some (.int .i64 c1) from rfl)
  have z1 := (blk_cell hc4.out 1).trans (show _ = some (.int .i32 c2) from rfl)
  have z2 := (blk_cell hc4.out 2).trans (show _ = some (.int .i64 c3) from rfl)
  have z3 := (blk_cell hc4.out 3).trans (show _ = some (.string (a4 ++ b4)) from rfl)
  have z4 := (blk_cell hc4.out 4).trans (show _ = some (.int .i64 c5) from rfl)
  go_wp2_with first | (go_at_call 12; (with_reducible refine (pre_ _ _ _).mono ?_); rintro e' w6 ⟨rfl, rfl⟩) | (go_at_call 11; (with_reducible refine (awake _).mono ?_); rintro e' w5 ⟨rfl, hb5⟩; replace hb5 := Aside0.mk hb5)
  go_ret
  exact ⟨rfl, below_step hb4.out hb5.out⟩
theorem more (c d : ByteArray) (g e f : Int) (inp : ByteArray) (n0 n1 : Int) (b00 : 0 ≤ n0) (b01 : n0 ≤ 65535) (b10 : 0 ≤ n1) (b11 : n1 ≤ 65535) (w : World) (hi : inp.size ≤ 9223372036854775807) :
    Calls Try.prog 5 #[imV c d g e f, .string inp, .agg #[.int .u16 n0, .int .u16 n1]] w fun e w' => e = .returned (.bool true) ∧ Below w.heap.size w w' := by
  have hP := fun W => runP c d g e f inp (n0 % 3000) W hi (by omega)
  have hQ := fun W => runP c d g e f inp (n0 % 3000 + n1 % 3000) W hi (by omega)
  unfold runV at hP hQ
  by_cases h : mayI c d g e f = false
  · simp only [if_pos h] at hP hQ
    exact more_err c d g e f inp n0 n1 b00 b01 b10 b11 w 0 0 0 ⟨#[]⟩ 0 1 rfl rfl (fun W => ⟨hP W⟩) (fun W => ⟨hQ W⟩)
  · simp only [if_neg h] at hP hQ
    by_cases hl : 1048576 < inp.size
    · simp only [if_pos hl] at hP hQ
      exact more_err c d g e f inp n0 n1 b00 b01 b10 b11 w 0 0 0 ⟨#[]⟩ 0 3 rfl rfl (fun W => ⟨hP W⟩) (fun W => ⟨hQ W⟩)
    · simp only [if_neg hl] at hP hQ
      rw [if_neg (by omega)] at hP hQ
      rw [show (n0 % 3000 + n1 % 3000).toNat = (n0 % 3000).toNat + (n1 % 3000).toNat by omega] at hQ
      have hg0 := (Gr.stepN (Mc.init c d g e f inp) (n0 % 3000).toNat).kd (by intro h; exact absurd h (by show ¬ (false = true); decide))
      generalize (n0 % 3000).toNat = k at *
      generalize (n1 % 3000).toNat = j at *
      rw [stepN_add] at hQ
      have hg := Gr.stepN ((Mc.init c d g e f inp).stepN k) j
      generalize hs : (Mc.init c d g e f inp).stepN k = s at *
      cases he : s.ended
      · obtain ⟨t, ht⟩ := hg.out
        have hu := hg.used
        have e1 : s.endV = .agg #[.int .i64 3, .int .i32 0, .int .i64 0, .string (strOfNums s.out), .int .i64 (s.used : Int)] := by unfold Mc.endV; rw [he]; rfl
        have e2 : (s.stepN j).endV = .agg #[.int .i64 (if (s.stepN j).ended then (s.stepN j).kind else 3), .int .i32 (if (s.stepN j).ended then (s.stepN j).ecode else 0), .int .i64 (if (s.stepN j).ended then (s.stepN j).trap else 0), .string (strOfNums s.out ++ strOfNums t), .int .i64 ((s.stepN j).used : Int)] := by unfold Mc.endV; rw [ht, strOfNums_append]
        simp only [e1] at hP
        simp only [e2] at hQ
        exact more_on c d g e f inp n0 n1 b00 b01 b10 b11 w _ _ _ _ _ _ _ (by omega) (fun W => ⟨hP W⟩) (fun W => ⟨hQ W⟩)
      · have h0 := stepN_ended (s := s) (k := 0) he j (Nat.zero_le _)
        have hk := hg0 he
        have e1 : s.endV = .agg #[.int .i64 s.kind, .int .i32 s.ecode, .int .i64 s.trap, .string (strOfNums s.out), .int .i64 (s.used : Int)] := by unfold Mc.endV; rw [he]; rfl
        rw [h0] at hQ
        have h1 : s.stepN 0 = s := rfl
        rw [h1] at hQ
        simp only [e1] at hP hQ
        exact more_done c d g e f inp n0 n1 b00 b01 b10 b11 w _ _ _ _ _ (by simpa using hk) (by simpa using hk) (fun W => ⟨hP W⟩) (fun W => ⟨hQ W⟩)
end Go.Proofs.Ytbhkfdjofopfkaa.MemA
