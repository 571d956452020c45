/- The reference's machine: Step and Run, whatever comes. -/
import Derived.Test.YtbhkfdjofopfkaaRaF
import Derived.Test.YtbhkfdjofopfkaaRaG
import Derived.Test.YtbhkfdjofopfkaaRaH
import Derived.Test.YtbhkfdjofopfkaaMaN
namespace Go.Proofs.Ytbhkfdjofopfkaa.MemA
open Go.RowKit Go.Proofs.YtbhkfdjofopfkaaW.PrintWords Go.Proofs.YtbhkfdjofopfkaaW.PrintLast
set_option linter.unusedVariables false
set_option linter.unusedSimpArgs false
theorem fin_false {t : Mc} (h : t.ended = false) (n : Int) : t.fin n = t.jump n := by unfold Mc.fin; rw [h]; rfl
theorem fin_true {t : Mc} (h : t.ended = true) (n : Int) : t.fin n = t := by unfold Mc.fin; rw [h]; rfl
theorem setR_ended (s : Mc) (d : Nat) (x : Int) : (s.setR d x).ended = s.ended := by unfold Mc.setR; split <;> rfl
theorem getS_ended (s : Mc) : s.getS.ended = s.ended := by unfold Mc.getS; split <;> rfl
theorem msS_ended (s : Mc) (op : Int) (d a : Nat) (i : Int) : (s.msS op d a i).ended = s.ended := by
  unfold Mc.msS Mc.st4 Mc.st1
  repeat' split
  all_goals first | rfl | exact setR_ended _ _ _
theorem rexec_mov {s : Mc} (he : s.ended = false) {op : Int} (ho : 35 ≤ op ∧ op ≤ 38) (d a b : Nat) (i : Int) : (s.rmov op d a i).fin (s.goes op a i) = s.exec ⟨op, d, a, b, i⟩ := by
  have hg : s.goes op a i = s.pc + 4 := by unfold Mc.goes; rw [if_neg (by omega), if_neg (by omega), if_neg (by omega), if_neg (by omega)]
  have hx : s.exec ⟨op, d, a, b, i⟩ = if s.msE op d a i = true then (s.msS op d a i).jump (s.pc + 4) else (s.msS op d a i).trapK 5 := by
    unfold Mc.exec
    rw [if_neg (by show ¬ op = 32; omega), if_neg (by show ¬ op = 33; omega), if_neg (by show ¬ op = 34; omega), if_pos (by show op = 35 ∨ op = 36 ∨ op = 37 ∨ op = 38; omega)]
  rw [hg, hx]
  unfold Mc.rmov
  cases hE : s.msE op d a i
  · simp only [Bool.false_eq_true, if_false]
    exact fin_true rfl _
  · simp only [if_true]
    exact fin_false ((msS_ended _ _ _ _ _).trans he) _
theorem rexec_do {s : Mc} (he : s.ended = false) {op : Int} (ho : 32 ≤ op ∧ op ≤ 47 ∧ (op < 35 ∨ 38 < op)) (d a b : Nat) (i : Int) : (s.rdo op d a i).fin (s.goes op a i) = s.exec ⟨op, d, a, b, i⟩ := by
  have : op = 32 ∨ op = 33 ∨ op = 34 ∨ op = 42 ∨ op = 44 ∨ op = 45 ∨ op = 46 ∨ op = 47 ∨ op = 39 ∨ op = 40 ∨ op = 41 ∨ op = 43 := by omega
  rcases this with rfl | rfl | rfl | rfl | rfl | rfl | rfl | rfl | rfl | rfl | rfl | rfl
  · exact (fin_false (t := s.rdo 32 d a i) ((setR_ended _ _ _).trans he) _).trans rfl
  · exact (fin_false (t := s.rdo 33 d a i) ((setR_ended _ _ _).trans he) _).trans rfl
  · exact (fin_false (t := s.rdo 34 d a i) ((setR_ended _ _ _).trans he) _).trans rfl
  · exact (fin_false (t := s.rdo 42 d a i) ((setR_ended s 14 (s.pc + 4)).trans he) _).trans rfl
  · exact (fin_false (t := s.rdo 44 d a i) ((setR_ended _ _ _).trans ((getS_ended _).trans he)) _).trans rfl
  · exact (fin_false (t := s.rdo 45 d a i) he _).trans rfl
  · exact (fin_true (t := s.rdo 46 d a i) rfl _).trans rfl
  · exact (fin_true (t := s.rdo 47 d a i) rfl _).trans rfl
  · exact (fin_false (t := s.rdo 39 d a i) he _).trans rfl
  · exact (fin_false (t := s.rdo 40 d a i) he _).trans rfl
  · exact (fin_false (t := s.rdo 41 d a i) he _).trans rfl
  · exact (fin_false (t := s.rdo 43 d a i) he _).trans rfl
theorem rexec_alu {s : Mc} {op : Int} (ho : 1 ≤ op ∧ op ≤ 19) (d a b : Nat) (i : Int) : s.ralu op d a b (s.goes op a i) = s.exec ⟨op, d, a, b, i⟩ := by
  have hg : s.goes op a i = s.pc + 4 := by unfold Mc.goes; rw [if_neg (by omega), if_neg (by omega), if_neg (by omega), if_neg (by omega)]
  rw [hg, exec_alu s ⟨op, d, a, b, i⟩ ho.1 ho.2]
  rfl
set_option maxHeartbeats 8000000 in
set_option maxRecDepth 100000 in
theorem rst_none {w : World} {base g gm h : Nat} {v : Value} {s : Mc} (m : Aside0 (RW w base g gm h v s)) (he : s.ended = false) (hx : s.fet = none) :
    Calls Try.prog 23 #[PM g] w (StepR g base gm h v true (s.trapK 4) w) := by
  have hfe := Aside0.mk (rfetch_none m hx)
  have c24 : w.cell? ⟨g, 24, none⟩ = some (.bool false) := (m.out.c_tl 1).trans (by show some (Value.bool s.ended) = _; rw [he])
  clear he hx
  go_enter Try.func23, Try.ntmps23
  go_upto_region 5 with (go_at_call 40; (with_reducible refine hfe.out.mono ?_); rintro e w1 ⟨rfl, hb1⟩; replace hb1 := Aside0.mk hb1)
  have hb : Aside0 (Below w.heap.size w (w1.alloc (.cells #[.int .i64 0, .int .i64 0, .int .i64 0, .int .i64 0, .int .i32 0] 67))) := ⟨below_alloc hb1.out _⟩
  generalize w1.alloc (.cells #[.int .i64 0, .int .i64 0, .int .i64 0, .int .i64 0, .int .i32 0] 67) = W at *
  have mW : Aside0 (RW W base g gm h v s) := ⟨m.out.below hb.out⟩
  go_wp2_with (go_at_call 41; (with_reducible refine (rtrap mW 4).mono ?_); rintro e w3 ⟨rfl, m3, o3⟩; replace m3 := Aside0.mk m3; replace o3 := Aside0.mk o3)
  go_ret
  exact ⟨rfl, v, m3.out, .inl rfl, (Fr.of_below hb.out _).trans (o3.out.mono SR.g)⟩
set_option maxHeartbeats 8000000 in
set_option maxRecDepth 100000 in
theorem rstep_no {w : World} {base g gm h : Nat} {v : Value} {s : Mc} (m : Aside0 (RW w base g gm h v s)) (he : s.ended = true) :
    Calls Try.prog 23 #[PM g] w fun e w' => e = .returned (.bool false) ∧ w = w' := by
  have c24 : w.cell? ⟨g, 24, none⟩ = some (.bool true) := (m.out.c_tl 1).trans (by show some (Value.bool s.ended) = _; rw [he])
  clear he
  go_enter Try.func23, Try.ntmps23
  go_wp2_with fail
  go_ret
  exact ⟨rfl, rfl⟩
theorem rstep_yes {w : World} {base g gm h : Nat} {v : Value} {s : Mc} (m : RW w base g gm h v s) (he : s.ended = false) (hbs : base ≤ w.heap.size) (hol : s.out.length < 1099511627776) :
    Calls Try.prog 23 #[PM g] w (StepR g base gm h v true s.step w) := by
  cases hx : s.fet with
  | none =>
    have e : s.step = s.trapK 4 := by unfold Mc.step; rw [he, hx]; rfl
    rw [e]
    exact rst_none ⟨m⟩ he hx
  | some x =>
    have hk := fet_ok m.ok hx
    rw [Mc.step_eq he hx]
    obtain ⟨op, d, a, b, i⟩ := x
    rcases hk.op with h1 | h1
    · rw [← rexec_alu h1 d a b i]
      exact rst_alu ⟨m⟩ h1 he hx hk hbs hol
    · have h2 : 32 ≤ op ∧ op ≤ 47 := h1
      by_cases h3 : 35 ≤ op ∧ op ≤ 38
      · rw [← rexec_mov he h3 d a b i]
        exact rst_mov ⟨m⟩ h3 he hx hk hbs hol
      · have h4 : 32 ≤ op ∧ op ≤ 47 ∧ (op < 35 ∨ 38 < op) := by omega
        rw [← rexec_do he h4 d a b i]
        exact rst_do ⟨m⟩ h4 he hx hk hbs hol
/-- A machine of the reference's under way. -/
structure WayR (s : Mc) (g gm h : Nat) (w : World) (k : Nat) (wr : World) : Prop where
  m : ∃ v, RW wr (h + 1) g gm h v (s.stepN k)
  bel : Below w.heap.size w wr
  lg : w.heap.size ≤ g
  lm : w.heap.size ≤ gm
  lh : w.heap.size ≤ h
theorem own_baseR {w : World} {base g gm h : Nat} {v : Value} {s : Mc} (m : RW w base g gm h v s) : ∀ k, v.ownBlock = some k → base ≤ k := fun k hk => ((Kd.R_bound m.out).1 k hk).2.1
theorem WayR.step {s : Mc} {g gm h : Nat} {w wr : World} {k : Nat} (W : WayR s g gm h w k wr) (he : (s.stepN k).ended = false) (hol : s.out.length + k < 1099511627776) :
    Calls Try.prog 23 #[PM g] wr fun e w' => e = .returned (.bool true) ∧ WayR s g gm h w (k + 1) w' := by
  obtain ⟨v, m⟩ := W.m
  have hl := stepN_out s k
  refine (rstep_yes m he (blk_lt m.mem.row) (by omega)).mono ?_
  rintro e w' ⟨rfl, v', m', _, fr⟩
  refine ⟨rfl, ⟨v', m'⟩, W.bel.trans (fr.below W.bel.size (fun k hk hs => ?_)), W.lg, W.lm, W.lh⟩
  have := W.lg; have := W.lh
  rcases hs with rfl | rfl | hs
  · omega
  · omega
  · have := own_baseR m k hs
    omega
/-- A machine that has not ended has no code. -/
def Idle (s : Mc) : Prop := s.ended = false → s.ecode = 0 ∧ s.trap = 0
theorem setR_idle {s : Mc} (h : Idle s) (d : Nat) (x : Int) : Idle (s.setR d x) := by unfold Mc.setR; split <;> exact h
theorem getS_idle {s : Mc} (h : Idle s) : Idle s.getS := by unfold Mc.getS; split <;> exact h
theorem msS_idle {s : Mc} (h : Idle s) (op : Int) (d a : Nat) (i : Int) : Idle (s.msS op d a i) := by
  unfold Mc.msS Mc.st4 Mc.st1
  repeat' split
  all_goals first | exact h | exact setR_idle h _ _
theorem ite_idle {c : Prop} [Decidable c] {A B : Mc} (ha : Idle A) (hb : Idle B) : Idle (if c then A else B) := by split <;> assumption
theorem exec_idle {s : Mc} (h : Idle s) (x : In) : Idle (s.exec x) := by
  have h1 : ∀ d x n, Idle ((s.setR d x).jump n) := fun d x n => setR_idle h d x
  have h2 : ∀ n, Idle ((s.msS x.op x.d x.a x.i).jump n) := fun n => msS_idle h _ _ _ _
  have h3 : ∀ n, Idle (s.jump n) := fun n => h
  have h4 : ∀ d x n, Idle ((s.getS.setR d x).jump n) := fun d x n => setR_idle (getS_idle h) d x
  have h5 : ∀ l n, Idle (({ s with out := l } : Mc).jump n) := fun l n => h
  have h6 : ∀ (t : Mc) k, Idle (t.trapK k) := fun t k e => absurd (show true = false from e) (by decide)
  unfold Mc.exec
  repeat (first | exact h1 _ _ _ | exact h2 _ | exact h3 _ | exact h4 _ _ _ | exact h5 _ _ | exact h6 _ _ | exact (fun e => absurd (show true = false from e) (by decide)) | refine ite_idle ?_ ?_)
theorem step_idle {s : Mc} (h : Idle s) : Idle s.step := by
  unfold Mc.step
  split
  · exact h
  · split
    · exact fun e => absurd (show true = false from e) (by decide)
    · exact exec_idle h _
theorem stepN_idle {s : Mc} (h : Idle s) : ∀ n, Idle (s.stepN n)
  | 0 => h
  | n + 1 => step_idle (stepN_idle h n)
theorem WayR.end_ {s : Mc} {g gm h : Nat} {w wr : World} {k : Nat} (W : WayR s g gm h w k wr) (hi : Idle s) :
    Calls Try.prog 25 #[PM g] wr fun e w' => e = .returned (s.stepN k).endV ∧ Below wr.heap.size wr w' := by
  obtain ⟨v, m⟩ := W.m
  exact rend_ ⟨m⟩ (stepN_idle hi k)
theorem NewR.way {s : Mc} {w w' : World} {e : Ending} (h : NewR s w e w') : ∃ g gm hh, e = .returned (.tuple #[PM g, .int .i64 0]) ∧ WayR s g gm hh w 0 w' := by
  obtain ⟨g, gm, hh, h1, h2, h3, h4, h5, h6⟩ := h
  exact ⟨g, gm, hh, h1, ⟨_, h2⟩, h6, h3, h4, h5⟩
theorem WayR.endA {s : Mc} {g gm h : Nat} {w wr : World} {k : Nat} (W : WayR s g gm h w k wr) (hi : Idle s) {a1 a2 a3 a5 : Int} {a4 : ByteArray} (hE : (s.stepN k).endV = .agg #[.int .i64 a1, .int .i32 a2, .int .i64 a3, .string a4, .int .i64 a5]) :
    Calls Try.prog 25 #[PM g] wr fun e w' => e = .returned (.agg #[.int .i64 a1, .int .i32 a2, .int .i64 a3, .string a4, .int .i64 a5]) ∧ Below wr.heap.size wr w' := by
  rw [← hE]
  exact W.end_ hi
theorem WayR.over {s : Mc} {g gm h : Nat} {w wr : World} {k : Nat} (W : WayR s g gm h w k wr) : wr.cell? ⟨g, 24, none⟩ = some (.bool (s.stepN k).ended) := by
  obtain ⟨v, m⟩ := W.m
  exact (m.c_tl 1).trans rfl
end Go.Proofs.Ytbhkfdjofopfkaa.MemA
