/- What a run has not read does not move how it ended: the walk of the law. -/
import Derived.Test.YtbhkfdjofopfkaaMaO
namespace Go.Proofs.Ytbhkfdjofopfkaa.MemA
open Go.RowKit Go.Proofs.YtbhkfdjofopfkaaW.PrintWords Go.Proofs.YtbhkfdjofopfkaaW.PrintLast
set_option linter.unusedVariables false
set_option linter.unusedSimpArgs false
/-- The machine with another input. -/
def Mc.wi (s : Mc) (x : ByteArray) : Mc := { s with inp := x }
theorem ite_wi {c : Prop} [Decidable c] (A B : Mc) (x : ByteArray) : (if c then A else B).wi x = if c then A.wi x else B.wi x := by split <;> rfl
theorem ite_both {c : Prop} [Decidable c] {A A' B B' : Mc} (h1 : c → A = A') (h2 : ¬ c → B = B') : (if c then A else B) = (if c then A' else B') := by
  split
  · exact h1 ‹_›
  · exact h2 ‹_›
theorem setR_wi (s : Mc) (d : Nat) (y : Int) (x : ByteArray) : (s.wi x).setR d y = (s.setR d y).wi x := by unfold Mc.setR; split <;> rfl
theorem msS_wi (s : Mc) (op : Int) (d a : Nat) (i : Int) (x : ByteArray) : (s.wi x).msS op d a i = (s.msS op d a i).wi x := by
  have ha : (s.wi x).adr a i = s.adr a i := rfl
  unfold Mc.msS Mc.st4 Mc.st1
  rw [ha]
  repeat' split
  all_goals first | rfl | exact setR_wi _ _ _ _
theorem exec_wi (s : Mc) (y : In) (x : ByteArray) (h1 : y.op = 44 → (s.wi x).getS = s.getS.wi x) (h2 : y.op = 44 → (s.wi x).getV = s.getV) : (s.wi x).exec y = (s.exec y).wi x := by
  unfold Mc.exec
  simp only [ite_wi]
  refine ite_both (fun _ => by rw [setR_wi]; rfl) (fun _ => ?_)
  refine ite_both (fun _ => by rw [setR_wi]; rfl) (fun _ => ?_)
  refine ite_both (fun _ => by rw [setR_wi]; rfl) (fun _ => ?_)
  refine ite_both (fun _ => ite_both (fun _ => by rw [msS_wi]; rfl) (fun _ => by rw [msS_wi]; rfl)) (fun _ => ?_)
  refine ite_both (fun _ => rfl) (fun _ => ?_)
  refine ite_both (fun _ => rfl) (fun _ => ?_)
  refine ite_both (fun _ => rfl) (fun _ => ?_)
  refine ite_both (fun _ => by rw [setR_wi]; rfl) (fun _ => ?_)
  refine ite_both (fun _ => rfl) (fun _ => ?_)
  refine ite_both (fun h => by rw [h1 h, h2 h, setR_wi]; rfl) (fun _ => ?_)
  refine ite_both (fun _ => rfl) (fun _ => ?_)
  refine ite_both (fun _ => rfl) (fun _ => ?_)
  refine ite_both (fun _ => rfl) (fun _ => ?_)
  exact ite_both (fun _ => by rw [setR_wi]; rfl) (fun _ => rfl)
/-- A step reads no more than there is, and never turns its input. -/
structure Us (s s' : Mc) : Prop where
  inp : s'.inp = s.inp
  up : s.used ≤ s'.used
  le : s.used ≤ s.inp.size → s'.used ≤ s.inp.size
theorem Us.refl (s : Mc) : Us s s := ⟨rfl, Nat.le_refl _, id⟩
theorem Us.trans {a b c : Mc} (h : Us a b) (k : Us b c) : Us a c := ⟨k.inp.trans h.inp, Nat.le_trans h.up k.up, fun q => by have := k.le (by rw [h.inp]; exact h.le q); rw [h.inp] at this; exact this⟩
theorem Us.like {s s' : Mc} (hi : s'.inp = s.inp) (hu : s'.used = s.used) : Us s s' := ⟨hi, by rw [hu]; exact Nat.le_refl _, fun q => by rw [hu]; exact q⟩
theorem Us.ite {s A B : Mc} {c : Prop} [Decidable c] (ha : Us s A) (hb : Us s B) : Us s (if c then A else B) := by split <;> assumption
theorem Us.setR (s : Mc) (d : Nat) (x : Int) : Us s (s.setR d x) := by
  unfold Mc.setR
  split
  · exact Us.refl s
  · exact Us.like rfl rfl
theorem Us.getS (s : Mc) : Us s s.getS := by
  unfold Mc.getS
  split
  · exact ⟨rfl, Nat.le_succ _, fun _ => by assumption⟩
  · exact Us.refl s
theorem Us.jump {s s' : Mc} (h : Us s s') (n : Int) : Us s (s'.jump n) := ⟨h.inp, h.up, h.le⟩
theorem Us.trapK {s s' : Mc} (h : Us s s') (n : Int) : Us s (s'.trapK n) := ⟨h.inp, h.up, h.le⟩
theorem Us.msS (s : Mc) (op : Int) (d a : Nat) (i : Int) : Us s (s.msS op d a i) := by
  unfold Mc.msS Mc.st4 Mc.st1
  repeat' split
  all_goals first | exact Us.setR _ _ _ | exact Us.like rfl rfl
theorem Us.exec (s : Mc) (x : In) : Us s (s.exec x) := by
  unfold Mc.exec
  repeat (first
    | exact (Us.setR _ _ _).jump _
    | exact ((Us.getS s).trans (Us.setR _ _ _)).jump _
    | exact (Us.msS s _ _ _ _).jump _
    | exact (Us.msS s _ _ _ _).trapK _
    | exact (Us.refl s).jump _
    | exact (Us.refl s).trapK _
    | exact (show Us s _ from Us.like rfl rfl)
    | refine Us.ite ?_ ?_)
theorem Us.step (s : Mc) : Us s s.step := by
  unfold Mc.step
  split
  · exact Us.refl s
  · split
    · exact (Us.refl s).trapK _
    · exact Us.exec _ _
theorem Us.stepN (s : Mc) : ∀ n, Us s (s.stepN n)
  | 0 => Us.refl s
  | n + 1 => (Us.stepN s n).trans (Us.step _)
theorem step_wi (s : Mc) (x : ByteArray) (u : Nat) (h1 : u < s.inp.size) (h2 : u < x.size) (hx : ∀ j (h : j ≤ u), x[j]'(by omega) = s.inp[j]'(by omega)) (hu : s.used ≤ u) : (s.wi x).step = s.step.wi x := by
  have a1 : (s.wi x).ended = s.ended := rfl
  have a2 : (s.wi x).fet = s.fet := rfl
  unfold Mc.step
  rw [a1, a2]
  split
  · rfl
  · split
    · rfl
    · refine exec_wi s _ x (fun _ => ?_) (fun _ => ?_)
      · unfold Mc.getS
        rw [if_pos (show (s.wi x).used < (s.wi x).inp.size from Nat.lt_of_le_of_lt hu h2), if_pos (by omega)]
        rfl
      · unfold Mc.getV
        rw [dif_pos (show (s.wi x).used < (s.wi x).inp.size from Nat.lt_of_le_of_lt hu h2), dif_pos (show s.used < s.inp.size by omega)]
        have := hx s.used hu
        show ((x[s.used]'(by omega)).toNat : Int) = _
        rw [this]
theorem stepN_wi (s : Mc) (x : ByteArray) (u : Nat) (h1 : u < s.inp.size) (h2 : u < x.size) (hx : ∀ j (h : j ≤ u), x[j]'(by omega) = s.inp[j]'(by omega)) : ∀ n, (s.stepN n).used ≤ u → (s.wi x).stepN n = (s.stepN n).wi x
  | 0, _ => rfl
  | n + 1, hu => by
    have hle := (Us.step (s.stepN n)).up
    have hi := (Us.stepN s n).inp
    have ih := stepN_wi s x u h1 h2 hx n (Nat.le_trans hle hu)
    show ((s.wi x).stepN n).step = ((s.stepN n).step).wi x
    rw [ih]
    exact step_wi (s.stepN n) x u (by rw [hi]; exact h1) h2 (fun j h => by rw [hx j h]; congr 1; exact hi.symm) (Nat.le_trans hle hu)
theorem wi_endV (s : Mc) (x : ByteArray) : (s.wi x).endV = s.endV := rfl
theorem ext_lead (X Y : ByteArray) (u : Nat) (hu : u < X.size) : u < (X.extract 0 (u + 1) ++ Y).size ∧ ∀ j (h : j ≤ u) (h2 : j < (X.extract 0 (u + 1) ++ Y).size), (X.extract 0 (u + 1) ++ Y)[j] = X[j]'(by omega) := by
  have hs : (X.extract 0 (u + 1)).size = u + 1 := by rw [ByteArray.size_extract]; omega
  refine ⟨by rw [ByteArray.size_append]; omega, fun j h h2 => ?_⟩
  rw [ByteArray.getElem_append_left (by omega), ByteArray.getElem_extract]
  simp

set_option maxHeartbeats 8000000 in
set_option maxRecDepth 100000 in
theorem in_err (c d : ByteArray) (g e f : Int) (X Y : ByteArray) (n : Int) (b0 : 0 ≤ n) (b1 : n ≤ 65535) (w : World) (a1 a2 a3 : Int) (a4 : ByteArray) (a5 : Int) (er : Int) (q0 : (er == 0) = false) (q1 : (er != 0) = true) (q2 : a5 ≤ (X.size : Int)) (hP : ∀ W, Aside0 (Calls Try.prog 9 #[imV c d g e f, .string X, .int .i64 (n % 3000)] W (RunP (.agg #[.int .i64 a1, .int .i32 a2, .int .i64 a3, .string a4, .int .i64 a5]) er W))) :
    Calls Try.prog 4 #[imV c d g e f, .agg #[.string X, .string Y], .int .u16 n] w fun e w' => e = .returned (.bool true) ∧ Below w.heap.size w w' := by
  have hb : Aside0 (Below w.heap.size w ((w.alloc (.cells #[.string c, .string d, .int .i64 g, .int .i64 e, .int .i64 f] 23)).alloc (.cells #[.string X, .string Y] 31))) := ⟨below_alloc (below_alloc (Below.refl _ _) _) _⟩
  have hr : Aside0 (((w.alloc (.cells #[.string c, .string d, .int .i64 g, .int .i64 e, .int .i64 f] 23)).alloc (.cells #[.string X, .string Y] 31)).heap[w.heap.size]? = some (.cells #[.string c, .string d, .int .i64 g, .int .i64 e, .int .i64 f] 23 (0, 0))) := ⟨blk_alloc (blk_new w _) _⟩
  have hz : Aside0 (((w.alloc (.cells #[.string c, .string d, .int .i64 g, .int .i64 e, .int .i64 f] 23)).alloc (.cells #[.string X, .string Y] 31)).heap[w.heap.size + 1]? = some (.cells #[.string X, .string Y] 31 (0, 0))) := ⟨by have := blk_new (w.alloc (.cells #[.string c, .string d, .int .i64 g, .int .i64 e, .int .i64 f] 23)) (.cells #[.string X, .string Y] 31); simpa using this⟩
  go_enter Try.func4, Try.ntmps4
  go_upto_region 1 with (fail)
  generalize (w.alloc (.cells #[.string c, .string d, .int .i64 g, .int .i64 e, .int .i64 f] 23)).alloc (.cells #[.string X, .string Y] 31) = W at *
  have y0 := (blk_cell hr.out 0).trans (show _ = some (.string c) from rfl)
  have y1 := (blk_cell hr.out 1).trans (show _ = some (.string d) from rfl)
  have y2 := (blk_cell hr.out 2).trans (show _ = some (.int .i64 g) from rfl)
  have y3 := (blk_cell hr.out 3).trans (show _ = some (.int .i64 e) from rfl)
  have y4 := (blk_cell hr.out 4).trans (show _ = some (.int .i64 f) from rfl)
  have v0 := (blk_cell hz.out 0).trans (show _ = some (.string X) from rfl)
  have v1 := (blk_cell hz.out 1).trans (show _ = some (.string Y) from rfl)
  go_upto_region 2 with (go_at_call 9; (with_reducible refine (hP _).out.mono ?_); rintro e' w1 ⟨rfl, hb1⟩; replace hb1 := Aside0.mk hb1)
  clear y0 y1 y2 y3 y4 v0 v1
  have hb2 : Aside0 (Below w.heap.size w (w1.alloc (.cells #[.int .i64 a1, .int .i32 a2, .int .i64 a3, .string a4, .int .i64 a5] 25))) := ⟨below_alloc (below_step hb.out hb1.out) _⟩
  have hr2 : Aside0 ((w1.alloc (.cells #[.int .i64 a1, .int .i32 a2, .int .i64 a3, .string a4, .int .i64 a5] 25)).heap[w.heap.size]? = some (.cells #[.string c, .string d, .int .i64 g, .int .i64 e, .int .i64 f] 23 (0, 0))) := ⟨blk_alloc (blk_below hr.out hb1.out) _⟩
  have hz2 : Aside0 ((w1.alloc (.cells #[.int .i64 a1, .int .i32 a2, .int .i64 a3, .string a4, .int .i64 a5] 25)).heap[w.heap.size + 1]? = some (.cells #[.string X, .string Y] 31 (0, 0))) := ⟨blk_alloc (blk_below hz.out hb1.out) _⟩
  have ha2 : Aside0 ((w1.alloc (.cells #[.int .i64 a1, .int .i32 a2, .int .i64 a3, .string a4, .int .i64 a5] 25)).heap[w1.heap.size]? = some (.cells #[.int .i64 a1, .int .i32 a2, .int .i64 a3, .string a4, .int .i64 a5] 25 (0, 0))) := ⟨blk_new _ _⟩
  generalize w1.alloc (.cells #[.int .i64 a1, .int .i32 a2, .int .i64 a3, .string a4, .int .i64 a5] 25) = W2 at *
  generalize w1.heap.size = pa at *
  clear hb1 hb hr hz
  have y0 := (blk_cell hr2.out 0).trans (show _ = some (.string c) from rfl)
  have y1 := (blk_cell hr2.out 1).trans (show _ = some (.string d) from rfl)
  have y2 := (blk_cell hr2.out 2).trans (show _ = some (.int .i64 g) from rfl)
  have y3 := (blk_cell hr2.out 3).trans (show _ = some (.int .i64 e) from rfl)
  have y4 := (blk_cell hr2.out 4).trans (show _ = some (.int .i64 f) from rfl)
  have v0 := (blk_cell hz2.out 0).trans (show _ = some (.string X) from rfl)
  have v1 := (blk_cell hz2.out 1).trans (show _ = some (.string Y) from rfl)
  have x0 := (blk_cell ha2.out 0).trans (show _ = some (.int .i64 a1) from rfl)
  have x1 := (blk_cell ha2.out 1).trans (show _ = some (.int .i32 a2) from rfl)
  have x2 := (blk_cell ha2.out 2).trans (show _ = some (.int .i64 a3) from rfl)
  have x3 := (blk_cell ha2.out 3).trans (show _ = some (.string a4) from rfl)
  have x4 := (blk_cell ha2.out 4).trans (show _ = some (.int .i64 a5) from rfl)
  go_wp2_with (go_at_call 11; (with_reducible refine (awake _).mono ?_); rintro e' w5 ⟨rfl, hb5⟩; replace hb5 := Aside0.mk hb5)
  go_ret
  exact ⟨rfl, below_step hb2.out hb5.out⟩
set_option maxHeartbeats 8000000 in
set_option maxRecDepth 100000 in
theorem in_all (c d : ByteArray) (g e f : Int) (X Y : ByteArray) (n : Int) (b0 : 0 ≤ n) (b1 : n ≤ 65535) (w : World) (a1 a2 a3 : Int) (a4 : ByteArray) (a5 : Int) (q1 : (a5 == (X.size : Int)) = true) (q2 : a5 ≤ (X.size : Int)) (hP : ∀ W, Aside0 (Calls Try.prog 9 #[imV c d g e f, .string X, .int .i64 (n % 3000)] W (RunP (.agg #[.int .i64 a1, .int .i32 a2, .int .i64 a3, .string a4, .int .i64 a5]) 0 W))) :
    Calls Try.prog 4 #[imV c d g e f, .agg #[.string X, .string Y], .int .u16 n] w fun e w' => e = .returned (.bool true) ∧ Below w.heap.size w w' := by
  have hb : Aside0 (Below w.heap.size w ((w.alloc (.cells #[.string c, .string d, .int .i64 g, .int .i64 e, .int .i64 f] 23)).alloc (.cells #[.string X, .string Y] 31))) := ⟨below_alloc (below_alloc (Below.refl _ _) _) _⟩
  have hr : Aside0 (((w.alloc (.cells #[.string c, .string d, .int .i64 g, .int .i64 e, .int .i64 f] 23)).alloc (.cells #[.string X, .string Y] 31)).heap[w.heap.size]? = some (.cells #[.string c, .string d, .int .i64 g, .int .i64 e, .int .i64 f] 23 (0, 0))) := ⟨blk_alloc (blk_new w _) _⟩
  have hz : Aside0 (((w.alloc (.cells #[.string c, .string d, .int .i64 g, .int .i64 e, .int .i64 f] 23)).alloc (.cells #[.string X, .string Y] 31)).heap[w.heap.size + 1]? = some (.cells #[.string X, .string Y] 31 (0, 0))) := ⟨by have := blk_new (w.alloc (.cells #[.string c, .string d, .int .i64 g, .int .i64 e, .int .i64 f] 23)) (.cells #[.string X, .string Y] 31); simpa using this⟩
  go_enter Try.func4, Try.ntmps4
  go_upto_region 1 with (fail)
  generalize (w.alloc (.cells #[.string c, .string d, .int .i64 g, .int .i64 e, .int .i64 f] 23)).alloc (.cells #[.string X, .string Y] 31) = W at *
  have y0 := (blk_cell hr.out 0).trans (show _ = some (.string c) from rfl)
  have y1 := (blk_cell hr.out 1).trans (show _ = some (.string d) from rfl)
  have y2 := (blk_cell hr.out 2).trans (show _ = some (.int .i64 g) from rfl)
  have y3 := (blk_cell hr.out 3).trans (show _ = some (.int .i64 e) from rfl)
  have y4 := (blk_cell hr.out 4).trans (show _ = some (.int .i64 f) from rfl)
  have v0 := (blk_cell hz.out 0).trans (show _ = some (.string X) from rfl)
  have v1 := (blk_cell hz.out 1).trans (show _ = some (.string Y) from rfl)
  go_upto_region 2 with (go_at_call 9; (with_reducible refine (hP _).out.mono ?_); rintro e' w1 ⟨rfl, hb1⟩; replace hb1 := Aside0.mk hb1)
  clear y0 y1 y2 y3 y4 v0 v1
  have hb2 : Aside0 (Below w.heap.size w (w1.alloc (.cells #[.int .i64 a1, .int .i32 a2, .int .i64 a3, .string a4, .int .i64 a5] 25))) := ⟨below_alloc (below_step hb.out hb1.out) _⟩
  have hr2 : Aside0 ((w1.alloc (.cells #[.int .i64 a1, .int .i32 a2, .int .i64 a3, .string a4, .int .i64 a5] 25)).heap[w.heap.size]? = some (.cells #[.string c, .string d, .int .i64 g, .int .i64 e, .int .i64 f] 23 (0, 0))) := ⟨blk_alloc (blk_below hr.out hb1.out) _⟩
  have hz2 : Aside0 ((w1.alloc (.cells #[.int .i64 a1, .int .i32 a2, .int .i64 a3, .string a4, .int .i64 a5] 25)).heap[w.heap.size + 1]? = some (.cells #[.string X, .string Y] 31 (0, 0))) := ⟨blk_alloc (blk_below hz.out hb1.out) _⟩
  have ha2 : Aside0 ((w1.alloc (.cells #[.int .i64 a1, .int .i32 a2, .int .i64 a3, .string a4, .int .i64 a5] 25)).heap[w1.heap.size]? = some (.cells #[.int .i64 a1, .int .i32 a2, .int .i64 a3, .string a4, .int .i64 a5] 25 (0, 0))) := ⟨blk_new _ _⟩
  generalize w1.alloc (.cells #[.int .i64 a1, .int .i32 a2, .int .i64 a3, .string a4, .int .i64 a5] 25) = W2 at *
  generalize w1.heap.size = pa at *
  clear hb1 hb hr hz
  have y0 := (blk_cell hr2.out 0).trans (show _ = some (.string c) from rfl)
  have y1 := (blk_cell hr2.out 1).trans (show _ = some (.string d) from rfl)
  have y2 := (blk_cell hr2.out 2).trans (show _ = some (.int .i64 g) from rfl)
  have y3 := (blk_cell hr2.out 3).trans (show _ = some (.int .i64 e) from rfl)
  have y4 := (blk_cell hr2.out 4).trans (show _ = some (.int .i64 f) from rfl)
  have v0 := (blk_cell hz2.out 0).trans (show _ = some (.string X) from rfl)
  have v1 := (blk_cell hz2.out 1).trans (show _ = some (.string Y) from rfl)
  have x0 := (blk_cell ha2.out 0).trans (show _ = some (.int .i64 a1) from rfl)
  have x1 := (blk_cell ha2.out 1).trans (show _ = some (.int .i32 a2) from rfl)
  have x2 := (blk_cell ha2.out 2).trans (show _ = some (.int .i64 a3) from rfl)
  have x3 := (blk_cell ha2.out 3).trans (show _ = some (.string a4) from rfl)
  have x4 := (blk_cell ha2.out 4).trans (show _ = some (.int .i64 a5) from rfl)
  go_wp2_with (go_at_call 11; (with_reducible refine (awake _).mono ?_); rintro e' w5 ⟨rfl, hb5⟩; replace hb5 := Aside0.mk hb5)
  go_ret
  exact ⟨rfl, below_step hb2.out hb5.out⟩
set_option maxHeartbeats 8000000 in
set_option maxRecDepth 100000 in
theorem in_some (c d : ByteArray) (g e f : Int) (X Y : ByteArray) (n : Int) (b0 : 0 ≤ n) (b1 : n ≤ 65535) (w : World) (a1 a2 a3 : Int) (a4 : ByteArray) (u : Nat) (hu : u < X.size) (hX : X.size ≤ 1048576) (hY : Y.size ≤ 140737488351232) (q1 : ((u : Int) == (X.size : Int)) = false) (hP : ∀ W, Aside0 (Calls Try.prog 9 #[imV c d g e f, .string X, .int .i64 (n % 3000)] W (RunP (.agg #[.int .i64 a1, .int .i32 a2, .int .i64 a3, .string a4, .int .i64 (u : Int)]) 0 W))) (hQ : (X.extract 0 (u + 1) ++ Y).size ≤ 1048576 → ∀ W, Aside0 (Calls Try.prog 9 #[imV c d g e f, .string (X.extract 0 (u + 1) ++ Y), .int .i64 (n % 3000)] W (RunP (.agg #[.int .i64 a1, .int .i32 a2, .int .i64 a3, .string a4, .int .i64 (u : Int)]) 0 W))) :
    Calls Try.prog 4 #[imV c d g e f, .agg #[.string X, .string Y], .int .u16 n] w fun e w' => e = .returned (.bool true) ∧ Below w.heap.size w w' := by
  have hb : Aside0 (Below w.heap.size w ((w.alloc (.cells #[.string c, .string d, .int .i64 g, .int .i64 e, .int .i64 f] 23)).alloc (.cells #[.string X, .string Y] 31))) := ⟨below_alloc (below_alloc (Below.refl _ _) _) _⟩
  have hr : Aside0 (((w.alloc (.cells #[.string c, .string d, .int .i64 g, .int .i64 e, .int .i64 f] 23)).alloc (.cells #[.string X, .string Y] 31)).heap[w.heap.size]? = some (.cells #[.string c, .string d, .int .i64 g, .int .i64 e, .int .i64 f] 23 (0, 0))) := ⟨blk_alloc (blk_new w _) _⟩
  have hz : Aside0 (((w.alloc (.cells #[.string c, .string d, .int .i64 g, .int .i64 e, .int .i64 f] 23)).alloc (.cells #[.string X, .string Y] 31)).heap[w.heap.size + 1]? = some (.cells #[.string X, .string Y] 31 (0, 0))) := ⟨by have := blk_new (w.alloc (.cells #[.string c, .string d, .int .i64 g, .int .i64 e, .int .i64 f] 23)) (.cells #[.string X, .string Y] 31); simpa using this⟩
  go_enter Try.func4, Try.ntmps4
  go_upto_region 1 with (fail)
  generalize (w.alloc (.cells #[.string c, .string d, .int .i64 g, .int .i64 e, .int .i64 f] 23)).alloc (.cells #[.string X, .string Y] 31) = W at *
  have y0 := (blk_cell hr.out 0).trans (show _ = some (.string c) from rfl)
  have y1 := (blk_cell hr.out 1).trans (show _ = some (.string d) from rfl)
  have y2 := (blk_cell hr.out 2).trans (show _ = some (.int .i64 g) from rfl)
  have y3 := (blk_cell hr.out 3).trans (show _ = some (.int .i64 e) from rfl)
  have y4 := (blk_cell hr.out 4).trans (show _ = some (.int .i64 f) from rfl)
  have v0 := (blk_cell hz.out 0).trans (show _ = some (.string X) from rfl)
  have v1 := (blk_cell hz.out 1).trans (show _ = some (.string Y) from rfl)
  go_upto_region 2 with (go_at_call 9; (with_reducible refine (hP _).out.mono ?_); rintro e' w1 ⟨rfl, hb1⟩; replace hb1 := Aside0.mk hb1)
  clear y0 y1 y2 y3 y4 v0 v1
  have hb2 : Aside0 (Below w.heap.size w (w1.alloc (.cells #[.int .i64 a1, .int .i32 a2, .int .i64 a3, .string a4, .int .i64 (u : Int)] 25))) := ⟨below_alloc (below_step hb.out hb1.out) _⟩
  have hr2 : Aside0 ((w1.alloc (.cells #[.int .i64 a1, .int .i32 a2, .int .i64 a3, .string a4, .int .i64 (u : Int)] 25)).heap[w.heap.size]? = some (.cells #[.string c, .string d, .int .i64 g, .int .i64 e, .int .i64 f] 23 (0, 0))) := ⟨blk_alloc (blk_below hr.out hb1.out) _⟩
  have hz2 : Aside0 ((w1.alloc (.cells #[.int .i64 a1, .int .i32 a2, .int .i64 a3, .string a4, .int .i64 (u : Int)] 25)).heap[w.heap.size + 1]? = some (.cells #[.string X, .string Y] 31 (0, 0))) := ⟨blk_alloc (blk_below hz.out hb1.out) _⟩
  have ha2 : Aside0 ((w1.alloc (.cells #[.int .i64 a1, .int .i32 a2, .int .i64 a3, .string a4, .int .i64 (u : Int)] 25)).heap[w1.heap.size]? = some (.cells #[.int .i64 a1, .int .i32 a2, .int .i64 a3, .string a4, .int .i64 (u : Int)] 25 (0, 0))) := ⟨blk_new _ _⟩
  generalize w1.alloc (.cells #[.int .i64 a1, .int .i32 a2, .int .i64 a3, .string a4, .int .i64 (u : Int)] 25) = W2 at *
  generalize w1.heap.size = pa at *
  clear hb1 hb hr hz
  have y0 := (blk_cell hr2.out 0).trans (show _ = some (.string c) from rfl)
  have y1 := (blk_cell hr2.out 1).trans (show _ = some (.string d) from rfl)
  have y2 := (blk_cell hr2.out 2).trans (show _ = some (.int .i64 g) from rfl)
  have y3 := (blk_cell hr2.out 3).trans (show _ = some (.int .i64 e) from rfl)
  have y4 := (blk_cell hr2.out 4).trans (show _ = some (.int .i64 f) from rfl)
  have v0 := (blk_cell hz2.out 0).trans (show _ = some (.string X) from rfl)
  have v1 := (blk_cell hz2.out 1).trans (show _ = some (.string Y) from rfl)
  have x0 := (blk_cell ha2.out 0).trans (show _ = some (.int .i64 a1) from rfl)
  have x1 := (blk_cell ha2.out 1).trans (show _ = some (.int .i32 a2) from rfl)
  have x2 := (blk_cell ha2.out 2).trans (show _ = some (.int .i64 a3) from rfl)
  have x3 := (blk_cell ha2.out 3).trans (show _ = some (.string a4) from rfl)
  have x4 := (blk_cell ha2.out 4).trans (show _ = some (.int .i64 (u : Int)) from rfl)
  have q2 : (0 : Int) ≤ (u : Int) := by omega
  have q3 : (u : Int) ≤ (X.size : Int) := by omega
  have q4 : (u : Int) + 1 ≤ (X.size : Int) := by omega
  have q5 : (X.size : Int) ≤ 1048576 := by omega
  have hw7 : Aside0 (IntKind.i64.wrap ((u : Int) + 1) = (u : Int) + 1) := ⟨by rw [IntKind.wrap_i64]; omega⟩
  have hsum : Aside0 (¬ 9223372036854775807 < min (u + 1) X.size + Y.size) := ⟨by omega⟩
  have ht7 : Aside0 (((u : Int) + 1).toNat = u + 1) := ⟨by omega⟩
  have q6 : (0 : Int) ≤ (u : Int) + 1 := by omega
  replace hX := Aside0.mk hX
  replace hY := Aside0.mk hY
  replace hu := Aside0.mk hu
  replace hQ := Aside0.mk hQ
  go_upto_region 6 with (fail)
  refine wp_region_quiet_lit (by kernel_rfl) (by kernel_rfl) ?_
  repeat (quiet_step (fail))
  refine wpQuiet_step (fun K hK => ?_)
  go_simp
  simp only [hw7.out, ht7.out, q4, q6, and_self, if_true]
  refine ⟨_, fun _ => ⟨trivial, rfl⟩, hK _ ?_⟩
  clear hK K
  repeat (quiet_step (fail))
  refine wpQuiet_step (fun K hK => ?_)
  go_simp
  simp only [if_neg hsum.out]
  refine ⟨_, fun _ => ⟨trivial, rfl⟩, hK _ ?_⟩
  clear hK K
  repeat (quiet_step (fail))
  refine wpQuiet_nil ?_
  intro _ hw'
  obtain ⟨nq, hw''⟩ := hw'
  subst hw''
  clear y0 y1 y2 y3 y4 v0 v1 x0 x1 x2 x3 x4
  have hbD : Aside0 (Below w.heap.size w (W2.drewN nq)) := ⟨below_step hb2.out (bdn0 _ _)⟩
  have hrD : Aside0 ((W2.drewN nq).heap[w.heap.size]? = some (.cells #[.string c, .string d, .int .i64 g, .int .i64 e, .int .i64 f] 23 (0, 0))) := ⟨blk_drewN hr2.out _⟩
  have haD : Aside0 ((W2.drewN nq).heap[pa]? = some (.cells #[.int .i64 a1, .int .i32 a2, .int .i64 a3, .string a4, .int .i64 (u : Int)] 25 (0, 0))) := ⟨blk_drewN ha2.out _⟩
  generalize W2.drewN nq = W3 at *
  clear hb2 hr2 ha2 hz2 hw7 ht7 q2 q3 q4 q5 q6
  replace hQ := hQ.out
  generalize X.extract 0 (u + 1) ++ Y = Z at *
  have y0 := (blk_cell hrD.out 0).trans (show _ = some (.string c) from rfl)
  have y1 := (blk_cell hrD.out 1).trans (show _ = some (.string d) from rfl)
  have y2 := (blk_cell hrD.out 2).trans (show _ = some (.int .i64 g) from rfl)
  have y3 := (blk_cell hrD.out 3).trans (show _ = some (.int .i64 e) from rfl)
  have y4 := (blk_cell hrD.out 4).trans (show _ = some (.int .i64 f) from rfl)
  by_cases hZ : Z.size ≤ 1048576
  · replace hQ := hQ hZ
    have q2 : (Z.size : Int) ≤ 1048576 := by omega
    replace hZ := Aside0.mk hZ
    go_upto_region 10 with (go_at_call 9; (with_reducible refine (hQ _).out.mono ?_); rintro e' w3 ⟨rfl, hb3⟩; replace hb3 := Aside0.mk hb3)
    clear y0 y1 y2 y3 y4
    have hb4 : Aside0 (Below w.heap.size w (w3.alloc (.cells #[.int .i64 a1, .int .i32 a2, .int .i64 a3, .string a4, .int .i64 (u : Int)] 25))) := ⟨below_alloc (below_step hbD.out hb3.out) _⟩
    have ha4 : Aside0 ((w3.alloc (.cells #[.int .i64 a1, .int .i32 a2, .int .i64 a3, .string a4, .int .i64 (u : Int)] 25)).heap[pa]? = some (.cells #[.int .i64 a1, .int .i32 a2, .int .i64 a3, .string a4, .int .i64 (u : Int)] 25 (0, 0))) := ⟨blk_alloc (blk_below haD.out hb3.out) _⟩
    have hc4 : Aside0 ((w3.alloc (.cells #[.int .i64 a1, .int .i32 a2, .int .i64 a3, .string a4, .int .i64 (u : Int)] 25)).heap[w3.heap.size]? = some (.cells #[.int .i64 a1, .int .i32 a2, .int .i64 a3, .string a4, .int .i64 (u : Int)] 25 (0, 0))) := ⟨blk_new _ _⟩
    generalize w3.alloc (.cells #[.int .i64 a1, .int .i32 a2, .int .i64 a3, .string a4, .int .i64 (u : Int)] 25) = W4 at *
    generalize w3.heap.size = pc at *
    have x0 := (blk_cell ha4.out 0).trans (show _ = some (.int .i64 a1) from rfl)
    have x1 := (blk_cell ha4.out 1).trans (show _ = some (.int .i32 a2) from rfl)
    have x2 := (blk_cell ha4.out 2).trans (show _ = some (.int .i64 a3) from rfl)
    have x3 := (blk_cell ha4.out 3).trans (show _ = some (.string a4) from rfl)
    have x4 := (blk_cell ha4.out 4).trans (show _ = some (.int .i64 (u : Int)) from rfl)
    have z0 := (blk_cell hc4.out 0).trans (show _ = some (.int .i64 a1) from rfl)
    have z1 := (blk_cell hc4.out 1).trans (show _ = some (.int .i32 a2) from rfl)
    have z2 := (blk_cell hc4.out 2).trans (show _ = some (.int .i64 a3) from rfl)
    have z3 := (blk_cell hc4.out 3).trans (show _ = some (.string a4) from rfl)
    have z4 := (blk_cell hc4.out 4).trans (show _ = some (.int .i64 (u : Int)) from rfl)
    go_wp2_with (go_at_call 11; (with_reducible refine (awake _).mono ?_); rintro e' w5 ⟨rfl, hb5⟩; replace hb5 := Aside0.mk hb5)
    go_ret
    exact ⟨rfl, below_step hb4.out hb5.out⟩
  · have q2 : 1048576 < (Z.size : Int) := by omega
    replace hZ := Aside0.mk hZ
    go_wp2_with (go_at_call 11; (with_reducible refine (awake _).mono ?_); rintro e' w5 ⟨rfl, hb5⟩; replace hb5 := Aside0.mk hb5)
    go_ret
    exact ⟨rfl, below_step hbD.out hb5.out⟩
theorem inputs (c d : ByteArray) (g e f : Int) (X Y : ByteArray) (n : Int) (b0 : 0 ≤ n) (b1 : n ≤ 65535) (w : World) (hX : X.size ≤ 9223372036854775807) (hY : Y.size ≤ 140737488351232) :
    Calls Try.prog 4 #[imV c d g e f, .agg #[.string X, .string Y], .int .u16 n] w fun e w' => e = .returned (.bool true) ∧ Below w.heap.size w w' := by
  have hP := fun W => runP c d g e f X (n % 3000) W hX (by omega)
  have hP0 := hP
  unfold runV at hP
  by_cases h : mayI c d g e f = false
  · simp only [if_pos h] at hP
    exact in_err c d g e f X Y n b0 b1 w 0 0 0 ⟨#[]⟩ 0 1 rfl rfl (by omega) (fun W => ⟨hP W⟩)
  · simp only [if_neg h] at hP
    by_cases hl : 1048576 < X.size
    · simp only [if_pos hl] at hP
      exact in_err c d g e f X Y n b0 b1 w 0 0 0 ⟨#[]⟩ 0 3 rfl rfl (by omega) (fun W => ⟨hP W⟩)
    · simp only [if_neg hl] at hP
      rw [if_neg (by omega)] at hP
      have hus := Us.stepN (Mc.init c d g e f X) (n % 3000).toNat
      have hle : ((Mc.init c d g e f X).stepN (n % 3000).toNat).used ≤ X.size := hus.le (Nat.zero_le _)
      obtain ⟨a1, a2, a3, a4, hE⟩ : ∃ a1 a2 a3 a4, ((Mc.init c d g e f X).stepN (n % 3000).toNat).endV = .agg #[.int .i64 a1, .int .i32 a2, .int .i64 a3, .string a4, .int .i64 (((Mc.init c d g e f X).stepN (n % 3000).toNat).used : Int)] := ⟨_, _, _, _, rfl⟩
      have hX2 : X.size ≤ 1048576 := by omega
      by_cases hu : ((Mc.init c d g e f X).stepN (n % 3000).toNat).used = X.size
      · simp only [hE] at hP
        exact in_all c d g e f X Y n b0 b1 w a1 a2 a3 a4 _ (by rw [hu]; simp) (by rw [hu]; exact Int.le_refl _) (fun W => ⟨hP W⟩)
      · have hlt : ((Mc.init c d g e f X).stepN (n % 3000).toNat).used < X.size := by omega
        obtain ⟨l1, l2⟩ := ext_lead X Y _ hlt
        have hw := stepN_wi (Mc.init c d g e f X) (X.extract 0 (((Mc.init c d g e f X).stepN (n % 3000).toNat).used + 1) ++ Y) _ hlt l1 (fun j hj => l2 j hj (by omega)) (n % 3000).toNat (Nat.le_refl _)
        have hQ : (X.extract 0 (((Mc.init c d g e f X).stepN (n % 3000).toNat).used + 1) ++ Y).size ≤ 1048576 → ∀ W, _ := fun hz W => runP c d g e f (X.extract 0 (((Mc.init c d g e f X).stepN (n % 3000).toNat).used + 1) ++ Y) (n % 3000) W (by omega) (by omega)
        unfold runV at hQ
        simp only [if_neg h] at hQ
        rw [if_neg (show ¬ n % 3000 < 0 by omega)] at hQ
        have hI : Mc.init c d g e f (X.extract 0 (((Mc.init c d g e f X).stepN (n % 3000).toNat).used + 1) ++ Y) = (Mc.init c d g e f X).wi (X.extract 0 (((Mc.init c d g e f X).stepN (n % 3000).toNat).used + 1) ++ Y) := rfl
        rw [hI, hw, wi_endV, hE] at hQ
        simp only [hE] at hP
        refine in_some c d g e f X Y n b0 b1 w a1 a2 a3 a4 _ hlt hX2 hY (by rw [beq_eq_false_iff_ne]; omega) (fun W => ⟨hP W⟩) (fun hz W => ⟨?_⟩)
        have := hQ hz W
        rw [if_neg (by omega)] at this
        exact this
end Go.Proofs.Ytbhkfdjofopfkaa.MemA
