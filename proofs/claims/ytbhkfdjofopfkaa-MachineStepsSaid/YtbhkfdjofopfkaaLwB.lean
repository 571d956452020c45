/- No step of any machine moves the register zero: the walk of the law. -/
import Derived.Test.YtbhkfdjofopfkaaMaO
namespace Go.Proofs.Ytbhkfdjofopfkaa.MemA
open Go.RowKit Go.Proofs.YtbhkfdjofopfkaaW.PrintWords Go.Proofs.YtbhkfdjofopfkaaW.PrintLast
set_option linter.unusedVariables false
set_option linter.unusedSimpArgs false
theorem setR_z (s : Mc) (d : Nat) (x : Int) : (s.setR d x).regs.getD 0 0 = s.regs.getD 0 0 := by
  unfold Mc.setR
  split
  · rfl
  · rename_i h
    show (s.regs.set d x).getD 0 0 = _
    rw [List.getD_eq_getElem?_getD, List.getElem?_set_ne h, ← List.getD_eq_getElem?_getD]
theorem ite_z {c : Prop} [Decidable c] {A B : Mc} {v : Int} (ha : A.regs.getD 0 0 = v) (hb : B.regs.getD 0 0 = v) : (if c then A else B).regs.getD 0 0 = v := by split <;> assumption
theorem exec_z (s : Mc) (x : In) : (s.exec x).regs.getD 0 0 = s.regs.getD 0 0 := by
  have h1 : (s.msS x.op x.d x.a x.i).regs.getD 0 0 = s.regs.getD 0 0 := by
    unfold Mc.msS Mc.st4 Mc.st1
    repeat' split
    all_goals first | rfl | exact setR_z _ _ _
  have h2 : s.getS.regs = s.regs := by unfold Mc.getS; split <;> rfl
  have h4 : ∀ d x, (s.getS.setR d x).regs.getD 0 0 = s.regs.getD 0 0 := fun d x => by rw [setR_z, h2]
  unfold Mc.exec
  repeat (first | exact setR_z _ _ _ | exact h4 _ _ | exact h1 | rfl | refine ite_z ?_ ?_)
theorem step_z (s : Mc) : s.step.regs.getD 0 0 = s.regs.getD 0 0 := by
  unfold Mc.step
  split
  · rfl
  · split
    · rfl
    · exact exec_z _ _
theorem stepN_z (s : Mc) : ∀ n, (s.stepN n).regs.getD 0 0 = s.regs.getD 0 0
  | 0 => rfl
  | n + 1 => (step_z (s.stepN n)).trans (stepN_z s n)
set_option maxHeartbeats 8000000 in
set_option maxRecDepth 100000 in
theorem reg_ {w : World} {base g gm h : Nat} {v : Value} {s : Mc} (m : Aside0 (MW w base g gm h v s)) (r : Nat) (hr : r < 16) :
    Calls Try.prog 16 #[PM g, .int .i64 (r : Int)] w fun e w' => e = .returned (.int .u32 (s.regs.getD r 0)) ∧ w = w' := by
  have his := Aside0.mk (is_ m)
  have c := m.out.c_rg r hr
  have q0 : (0 : Int) ≤ (r : Int) := by omega
  have q1 : (r : Int) < 16 := by omega
  go_enter Try.func16, Try.ntmps16
  go_wp2_with (go_at_call 31; (with_reducible refine his.out.mono ?_); rintro e w' ⟨rfl, rfl⟩)
  go_ret
  exact ⟨rfl, rfl⟩
theorem Way.reg0 {s : Mc} {g gm h : Nat} {w wr : World} {k : Nat} (W : Way s g gm h w k wr) (hz : s.regs.getD 0 0 = 0) :
    Calls Try.prog 16 #[PM g, .int .i64 0] wr fun e w' => e = .returned (.int .u32 0) ∧ wr = w' := by
  obtain ⟨v, m⟩ := W.m
  have := reg_ ⟨m⟩ 0 (by omega)
  rw [stepN_z, hz] at this
  exact this
set_option maxHeartbeats 8000000 in
set_option maxRecDepth 100000 in
theorem chk14 (c d : ByteArray) (g e f : Int) (w : World) : Calls Try.prog 14 #[imV c d g e f] w fun e' w' => e' = .returned (.int .i64 (er (mayI c d g e f))) ∧ Below w.heap.size w w' := by
  have hc := fun W => Aside0.mk (mayR c d g e f W)
  have hb : Aside0 (Below w.heap.size w (w.alloc (.cells #[.string c, .string d, .int .i64 g, .int .i64 e, .int .i64 f] 23))) := ⟨below_alloc (Below.refl _ _) _⟩
  generalize mayI c d g e f = b at *
  cases b
  · go_enter Try.func14, Try.ntmps14
    go_wp2_with (go_at_call 30; (with_reducible refine (hc _).out.mono ?_); rintro e' w1 ⟨rfl, hb1⟩; replace hb1 := Aside0.mk hb1)
    go_ret
    exact ⟨rfl, below_step hb.out hb1.out⟩
  · go_enter Try.func14, Try.ntmps14
    go_wp2_with (go_at_call 30; (with_reducible refine (hc _).out.mono ?_); rintro e' w1 ⟨rfl, hb1⟩; replace hb1 := Aside0.mk hb1)
    go_ret
    exact ⟨rfl, below_step hb.out hb1.out⟩
set_option maxHeartbeats 8000000 in
set_option maxRecDepth 100000 in
theorem zero_bad (c d : ByteArray) (g e f : Int) (inp : ByteArray) (w : World) (hi : inp.size ≤ 9223372036854775807) (h : mayI c d g e f = false) :
    Calls Try.prog 6 #[imV c d g e f, .string inp] w fun e w' => e = .returned (.bool true) ∧ Below w.heap.size w w' := by
  have hnew := fun W => Aside0.mk (new_bad c d g e f inp W hi h)
  have hchk := fun W => Aside0.mk (chk14 c d g e f W)
  rw [h] at hchk
  replace hchk : ∀ W : World, Aside0 (Calls Try.prog 14 #[imV c d g e f] W fun e' w' => e' = .returned (.int .i64 1) ∧ Below W.heap.size W w') := hchk
  have hb : Aside0 (Below w.heap.size w (w.alloc (.cells #[.string c, .string d, .int .i64 g, .int .i64 e, .int .i64 f] 23))) := ⟨below_alloc (Below.refl _ _) _⟩
  have hr : Aside0 ((w.alloc (.cells #[.string c, .string d, .int .i64 g, .int .i64 e, .int .i64 f] 23)).heap[w.heap.size]? = some (.cells #[.string c, .string d, .int .i64 g, .int .i64 e, .int .i64 f] 23 (0, 0))) := ⟨blk_new w _⟩
  clear h
  go_enter Try.func6, Try.ntmps6
  go_upto_region 1 with (fail)
  generalize w.alloc (.cells #[.string c, .string d, .int .i64 g, .int .i64 e, .int .i64 f] 23) = W at *
  have y0 := (blk_cell hr.out 0).trans (show _ = some (.string c) from rfl)
  have y1 := (blk_cell hr.out 1).trans (show _ = some (.string d) from rfl)
  have y2 := (blk_cell hr.out 2).trans (show _ = some (.int .i64 g) from rfl)
  have y3 := (blk_cell hr.out 3).trans (show _ = some (.int .i64 e) from rfl)
  have y4 := (blk_cell hr.out 4).trans (show _ = some (.int .i64 f) from rfl)
  go_upto_region 3 with (go_at_call 13; (with_reducible refine (hnew _).out.mono ?_); rintro e' w1 ⟨rfl, hb1⟩; replace hb1 := Aside0.mk hb1)
  clear y0 y1 y2 y3 y4
  have hr1 : Aside0 (w1.heap[w.heap.size]? = some (.cells #[.string c, .string d, .int .i64 g, .int .i64 e, .int .i64 f] 23 (0, 0))) := ⟨blk_below hr.out hb1.out⟩
  have hb2 : Aside0 (Below w.heap.size w w1) := ⟨below_step hb.out hb1.out⟩
  have y0 := (blk_cell hr1.out 0).trans (show _ = some (.string c) from rfl)
  have y1 := (blk_cell hr1.out 1).trans (show _ = some (.string d) from rfl)
  have y2 := (blk_cell hr1.out 2).trans (show _ = some (.int .i64 g) from rfl)
  have y3 := (blk_cell hr1.out 3).trans (show _ = some (.int .i64 e) from rfl)
  have y4 := (blk_cell hr1.out 4).trans (show _ = some (.int .i64 f) from rfl)
  go_wp2_with first | (go_at_call 14; (with_reducible refine (hchk _).out.mono ?_); rintro e' w3 ⟨rfl, hb3⟩; replace hb3 := Aside0.mk hb3) | (go_at_call 11; (with_reducible refine (awake _).mono ?_); rintro e' w5 ⟨rfl, hb5⟩; replace hb5 := Aside0.mk hb5)
  go_ret
  exact ⟨rfl, below_step (below_step hb2.out hb3.out) hb5.out⟩
set_option maxHeartbeats 8000000 in
set_option maxRecDepth 100000 in
theorem zero_long (c d : ByteArray) (g e f : Int) (inp : ByteArray) (w : World) (hi : inp.size ≤ 9223372036854775807) (h : mayI c d g e f = true) (hl : 1048576 < inp.size) :
    Calls Try.prog 6 #[imV c d g e f, .string inp] w fun e w' => e = .returned (.bool true) ∧ Below w.heap.size w w' := by
  have hnew := fun W => Aside0.mk (new_long c d g e f inp W hi h hl)
  have hchk := fun W => Aside0.mk (chk14 c d g e f W)
  rw [h] at hchk
  replace hchk : ∀ W : World, Aside0 (Calls Try.prog 14 #[imV c d g e f] W fun e' w' => e' = .returned (.int .i64 0) ∧ Below W.heap.size W w') := hchk
  have hb : Aside0 (Below w.heap.size w (w.alloc (.cells #[.string c, .string d, .int .i64 g, .int .i64 e, .int .i64 f] 23))) := ⟨below_alloc (Below.refl _ _) _⟩
  have hr : Aside0 ((w.alloc (.cells #[.string c, .string d, .int .i64 g, .int .i64 e, .int .i64 f] 23)).heap[w.heap.size]? = some (.cells #[.string c, .string d, .int .i64 g, .int .i64 e, .int .i64 f] 23 (0, 0))) := ⟨blk_new w _⟩
  clear h
  go_enter Try.func6, Try.ntmps6
  go_upto_region 1 with (fail)
  generalize w.alloc (.cells #[.string c, .string d, .int .i64 g, .int .i64 e, .int .i64 f] 23) = W at *
  have y0 := (blk_cell hr.out 0).trans (show _ = some (.string c) from rfl)
  have y1 := (blk_cell hr.out 1).trans (show _ = some (.string d) from rfl)
  have y2 := (blk_cell hr.out 2).trans (show _ = some (.int .i64 g) from rfl)
  have y3 := (blk_cell hr.out 3).trans (show _ = some (.int .i64 e) from rfl)
  have y4 := (blk_cell hr.out 4).trans (show _ = some (.int .i64 f) from rfl)
  go_upto_region 3 with (go_at_call 13; (with_reducible refine (hnew _).out.mono ?_); rintro e' w1 ⟨rfl, hb1⟩; replace hb1 := Aside0.mk hb1)
  clear y0 y1 y2 y3 y4
  have hr1 : Aside0 (w1.heap[w.heap.size]? = some (.cells #[.string c, .string d, .int .i64 g, .int .i64 e, .int .i64 f] 23 (0, 0))) := ⟨blk_below hr.out hb1.out⟩
  have hb2 : Aside0 (Below w.heap.size w w1) := ⟨below_step hb.out hb1.out⟩
  have y0 := (blk_cell hr1.out 0).trans (show _ = some (.string c) from rfl)
  have y1 := (blk_cell hr1.out 1).trans (show _ = some (.string d) from rfl)
  have y2 := (blk_cell hr1.out 2).trans (show _ = some (.int .i64 g) from rfl)
  have y3 := (blk_cell hr1.out 3).trans (show _ = some (.int .i64 e) from rfl)
  have y4 := (blk_cell hr1.out 4).trans (show _ = some (.int .i64 f) from rfl)
  go_wp2_with first | (go_at_call 14; (with_reducible refine (hchk _).out.mono ?_); rintro e' w3 ⟨rfl, hb3⟩; replace hb3 := Aside0.mk hb3) | (go_at_call 11; (with_reducible refine (awake _).mono ?_); rintro e' w5 ⟨rfl, hb5⟩; replace hb5 := Aside0.mk hb5)
  go_ret
  exact ⟨rfl, below_step (below_step hb2.out hb3.out) hb5.out⟩
set_option maxHeartbeats 8000000 in
set_option maxRecDepth 100000 in
theorem zero_good (c d : ByteArray) (g e f : Int) (inp : ByteArray) (w : World) (h : mayI c d g e f = true) (hl : inp.size ≤ 1048576) :
    Calls Try.prog 6 #[imV c d g e f, .string inp] w fun e w' => e = .returned (.bool true) ∧ Below w.heap.size w w' := by
  have hnew := fun W => Aside0.mk (new_good c d g e f inp W h hl)
  have hout : Aside0 ((Mc.init c d g e f inp).out.length = 0) := ⟨rfl⟩
  have hz : Aside0 ((Mc.init c d g e f inp).regs.getD 0 0 = 0) := ⟨rfl⟩
  generalize Mc.init c d g e f inp = s at *
  have hb : Aside0 (Below w.heap.size w (w.alloc (.cells #[.string c, .string d, .int .i64 g, .int .i64 e, .int .i64 f] 23))) := ⟨below_alloc (Below.refl _ _) _⟩
  have hr : Aside0 ((w.alloc (.cells #[.string c, .string d, .int .i64 g, .int .i64 e, .int .i64 f] 23)).heap[w.heap.size]? = some (.cells #[.string c, .string d, .int .i64 g, .int .i64 e, .int .i64 f] 23 (0, 0))) := ⟨blk_new w _⟩
  clear h
  go_enter Try.func6, Try.ntmps6
  go_upto_region 1 with (fail)
  generalize w.alloc (.cells #[.string c, .string d, .int .i64 g, .int .i64 e, .int .i64 f] 23) = W at *
  have y0 := (blk_cell hr.out 0).trans (show _ = some (.string c) from rfl)
  have y1 := (blk_cell hr.out 1).trans (show _ = some (.string d) from rfl)
  have y2 := (blk_cell hr.out 2).trans (show _ = some (.int .i64 g) from rfl)
  have y3 := (blk_cell hr.out 3).trans (show _ = some (.int .i64 e) from rfl)
  have y4 := (blk_cell hr.out 4).trans (show _ = some (.int .i64 f) from rfl)
  go_upto_region 4 with (go_at_call 13; (with_reducible refine (hnew _).out.mono ?_); rintro e' w1 hN; obtain ⟨g1, gm, hh, rfl, W0⟩ := hN.way; clear hN; replace W0 := Aside0.mk W0)
  clear y0 y1 y2 y3 y4 hr
  go_wp2_with fail
  go_loopw [7] (fun i wr => ∃ k : Nat, i = .int .i64 k ∧ k ≤ 3000 ∧ Aside0 (Way s g1 gm hh W k wr)) (fun i _ => 3000 - (intOf i).toNat)
  case atStart => exact ⟨0, rfl, Nat.zero_le _, W0⟩
  case round =>
    obtain ⟨k, rfl, hk, hW⟩ := hrel
    by_cases hlt : k < 3000
    · cases he : (s.stepN k).ended
      · have hst := Aside0.mk (hW.out.step he (by have := hout.out; omega))
        clear he
        go_wp2_with first | (go_at_call 15; (with_reducible refine hst.out.mono ?_); rintro e' w2 ⟨rfl, hW2⟩; replace hW2 := Aside0.mk hW2) | (go_at_call 16; (with_reducible refine (hW2.out.reg0 hz.out).mono ?_); rintro e' w3 ⟨rfl, rfl⟩)
        go_roundw
        case rel => exact ⟨k + 1, by go_num, by omega, hW2⟩
        case measure => simp [intOf]; omega
      · have hst := Aside0.mk (hW.out.stop he)
        clear he
        go_wp2_with first | (go_at_call 15; (with_reducible refine hst.out.mono ?_); rintro e' w2 ⟨rfl, rfl⟩) | (go_at_call 11; (with_reducible refine (awake _).mono ?_); rintro e' w5 ⟨rfl, hb5⟩; replace hb5 := Aside0.mk hb5)
        go_ret
        exact ⟨rfl, below_step (below_step hb.out hW.out.bel) hb5.out⟩
    · obtain rfl : k = 3000 := by omega
      clear hlt
      go_wp2_with (go_at_call 11; (with_reducible refine (awake _).mono ?_); rintro e' w5 ⟨rfl, hb5⟩; replace hb5 := Aside0.mk hb5)
      go_ret
      exact ⟨rfl, below_step (below_step hb.out hW.out.bel) hb5.out⟩
theorem zero (c d : ByteArray) (g e f : Int) (inp : ByteArray) (w : World) (hi : inp.size ≤ 9223372036854775807) :
    Calls Try.prog 6 #[imV c d g e f, .string inp] w fun e w' => e = .returned (.bool true) ∧ Below w.heap.size w w' := by
  by_cases h : mayI c d g e f = false
  · exact zero_bad c d g e f inp w hi h
  · have h' : mayI c d g e f = true := by simpa using h
    by_cases hl : 1048576 < inp.size
    · exact zero_long c d g e f inp w hi h' hl
    · exact zero_good c d g e f inp w h' (by omega)
end Go.Proofs.Ytbhkfdjofopfkaa.MemA
