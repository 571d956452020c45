/- The machine's Run. -/
import Derived.Test.YtbhkfdjofopfkaaMaJ
import Derived.Test.YtbhkfdjofopfkaaMaL
import Derived.Test.YtbhkfdjofopfkaaMaM
namespace Go.Proofs.Ytbhkfdjofopfkaa.MemA
open Go.RowKit Go.Proofs.YtbhkfdjofopfkaaW.PrintWords Go.Proofs.YtbhkfdjofopfkaaW.PrintLast
set_option linter.unusedVariables false
set_option linter.unusedSimpArgs false
/-- So many steps. -/
def Mc.stepN : Nat → Mc → Mc
  | 0, s => s
  | n + 1, s => (stepN n s).step
theorem step_ended {s : Mc} (h : s.ended = true) : s.step = s := by unfold Mc.step; rw [if_pos h]
theorem stepN_ended {s : Mc} {k : Nat} (h : (s.stepN k).ended = true) : ∀ n, k ≤ n → s.stepN n = s.stepN k
  | 0, hn => by obtain rfl : k = 0 := by omega
                rfl
  | n + 1, hn => by
    by_cases e : k = n + 1
    · rw [e]
    · have := stepN_ended h n (by omega)
      show (s.stepN n).step = _
      rw [this, step_ended h]
theorem setR_out (s : Mc) (d : Nat) (x : Int) : (s.setR d x).out = s.out := by unfold Mc.setR; split <;> rfl
theorem ite_out {c : Prop} [Decidable c] {A B : Mc} {n : Nat} (ha : A.out.length ≤ n) (hb : B.out.length ≤ n) : (if c then A else B).out.length ≤ n := by split <;> assumption
theorem exec_out (s : Mc) (x : In) : (s.exec x).out.length ≤ s.out.length + 1 := by
  have h1 : (s.msS x.op x.d x.a x.i).out = s.out := by
    unfold Mc.msS Mc.st4 Mc.st1
    repeat' split
    all_goals first | rfl | exact setR_out _ _ _
  have h2 : s.getS.out = s.out := by unfold Mc.getS; split <;> rfl
  have h3 : ∀ d x, (s.setR d x).out.length ≤ s.out.length + 1 := fun d x => by rw [setR_out]; omega
  have h4 : ∀ d x, (s.getS.setR d x).out.length ≤ s.out.length + 1 := fun d x => by rw [setR_out, h2]; omega
  have h5 : (s.msS x.op x.d x.a x.i).out.length ≤ s.out.length + 1 := by rw [h1]; omega
  have h6 : s.out.length ≤ s.out.length + 1 := Nat.le_succ _
  unfold Mc.exec
  repeat (first | exact h3 _ _ | exact h4 _ _ | exact h5 | exact h6 | exact (show (s.out ++ [_]).length ≤ _ by simp) | refine ite_out ?_ ?_)
theorem step_out (s : Mc) : s.step.out.length ≤ s.out.length + 1 := by
  unfold Mc.step
  split
  · omega
  · split
    · show s.out.length ≤ _; omega
    · exact exec_out _ _
theorem stepN_out (s : Mc) : ∀ n, (s.stepN n).out.length ≤ s.out.length + n
  | 0 => Nat.le_refl _
  | n + 1 => by
    have h1 := stepN_out s n
    have h2 := step_out (s.stepN n)
    show (s.stepN n).step.out.length ≤ _
    omega
/-- A machine under way, all of whose blocks are new since w. -/
structure Way (s : Mc) (g gm h : Nat) (w : World) (k : Nat) (wr : World) : Prop where
  m : ∃ v, MW wr (h + 1) g gm h v (s.stepN k)
  bel : Below w.heap.size w wr
  lg : w.heap.size ≤ g
  lm : w.heap.size ≤ gm
  lh : w.heap.size ≤ h
theorem own_base {w : World} {base g gm h : Nat} {v : Value} {s : Mc} (m : MW w base g gm h v s) : ∀ k, v.ownBlock = some k → base ≤ k := fun k hk => ((Kd.R_bound m.out).1 k hk).2.1
theorem Way.step {s : Mc} {g gm h : Nat} {w wr : World} {k : Nat} (W : Way s g gm h w k wr) (he : (s.stepN k).ended = false) (hol : s.out.length + k < 1099511627776) :
    Calls Try.prog 15 #[PM g] wr fun e w' => e = .returned (.bool true) ∧ Way s g gm h w (k + 1) w' := by
  obtain ⟨v, m⟩ := W.m
  have hl := stepN_out s k
  refine (step_yes m he (blk_lt m.mem.row) (by omega)).mono ?_
  rintro e w' ⟨rfl, v', m', _, fr⟩
  refine ⟨rfl, ⟨v', m'⟩, W.bel.trans (fr.below W.bel.size (fun k hk hs => ?_)), W.lg, W.lm, W.lh⟩
  have := W.lg; have := W.lh
  rcases hs with rfl | rfl | hs
  · omega
  · omega
  · have := own_base m k hs
    omega
theorem Way.stop {s : Mc} {g gm h : Nat} {w wr : World} {k : Nat} (W : Way s g gm h w k wr) (he : (s.stepN k).ended = true) :
    Calls Try.prog 15 #[PM g] wr fun e w' => e = .returned (.bool false) ∧ wr = w' := by
  obtain ⟨v, m⟩ := W.m
  exact step_no ⟨m⟩ he
theorem Way.end_ {s : Mc} {g gm h : Nat} {w wr : World} {k : Nat} (W : Way s g gm h w k wr) :
    Calls Try.prog 18 #[PM g] wr fun e w' => e = .returned (s.stepN k).endV ∧ Below wr.heap.size wr w' := by
  obtain ⟨v, m⟩ := W.m
  exact MemA.end_ ⟨m⟩
theorem NewM.way {s : Mc} {w w' : World} {e : Ending} (h : NewM s w e w') : ∃ g gm hh, e = .returned (.tuple #[PM g, .int .i64 0]) ∧ Way s g gm hh w 0 w' := by
  obtain ⟨g, gm, hh, h1, h2, h3, h4, h5, h6⟩ := h
  exact ⟨g, gm, hh, h1, ⟨_, h2⟩, h6, h3, h4, h5⟩
theorem endV_agg (s : Mc) : ∃ (a1 a2 a3 : Int) (a4 : ByteArray) (a5 : Int), s.endV = .agg #[.int .i64 a1, .int .i32 a2, .int .i64 a3, .string a4, .int .i64 a5] := ⟨_, _, _, _, _, rfl⟩
theorem Way.endA {s : Mc} {g gm h : Nat} {w wr : World} {k : Nat} (W : Way s g gm h w k wr) {a1 a2 a3 a5 : Int} {a4 : ByteArray} (hE : (s.stepN k).endV = .agg #[.int .i64 a1, .int .i32 a2, .int .i64 a3, .string a4, .int .i64 a5]) :
    Calls Try.prog 18 #[PM g] wr fun e w' => e = .returned (.agg #[.int .i64 a1, .int .i32 a2, .int .i64 a3, .string a4, .int .i64 a5]) ∧ Below wr.heap.size wr w' := by
  rw [← hE]
  exact W.end_
/-- What stands in a struct's cells behind its store, and is handed back. -/
theorem end_put {w3 : World} {q : Nat} (hr : w3.heap[q]? = some (.cells #[.int .i64 0, .int .i32 0, .int .i64 0, .string ⟨#[]⟩, .int .i64 0] 25 (0, 0))) (a1 a2 a3 : Int) (a4 : ByteArray) (a5 : Int) :
    (((((w3.setCell ⟨q, 0, none⟩ (.int .i64 a1)).setCell ⟨q, 1, none⟩ (.int .i32 a2)).setCell ⟨q, 2, none⟩ (.int .i64 a3)).setCell ⟨q, 3, none⟩ (.string a4)).setCell ⟨q, 4, none⟩ (.int .i64 a5)).heap[q]? = some (.cells #[.int .i64 a1, .int .i32 a2, .int .i64 a3, .string a4, .int .i64 a5] 25 (0, 0)) :=
  blk_put (blk_put (blk_put (blk_put (blk_put hr 0 _ rfl) 1 _ rfl) 2 _ rfl) 3 _ rfl) 4 _ rfl
/-- The cells of a struct that is still empty. -/
structure Zs (w3 : World) (q : Nat) : Prop where
  z0 : w3.cell? ⟨q, 0, none⟩ = some (.int .i64 0)
  z1 : w3.cell? ⟨q, 1, none⟩ = some (.int .i32 0)
  z2 : w3.cell? ⟨q, 2, none⟩ = some (.int .i64 0)
  z3 : w3.cell? ⟨q, 3, none⟩ = some (.string ⟨#[]⟩)
  z4 : w3.cell? ⟨q, 4, none⟩ = some (.int .i64 0)
  f : ∀ j, w3.frozen? ⟨q, j, none⟩ = false
theorem zs_of {w3 : World} {q : Nat} (hr : w3.heap[q]? = some (.cells #[.int .i64 0, .int .i32 0, .int .i64 0, .string ⟨#[]⟩, .int .i64 0] 25 (0, 0))) : Zs w3 q :=
  ⟨(blk_cell hr 0).trans rfl, (blk_cell hr 1).trans rfl, (blk_cell hr 2).trans rfl, (blk_cell hr 3).trans rfl, (blk_cell hr 4).trans rfl, fun j => blk_frozen hr j⟩
def RunP (r : Value) (er : Int) (w : World) (e : Ending) (w' : World) : Prop := e = .returned (.tuple #[r, .int .i64 er]) ∧ Below w.heap.size w w'
set_option maxHeartbeats 8000000 in
set_option maxRecDepth 100000 in
theorem run_good (c d : ByteArray) (g e f : Int) (inp : ByteArray) (n : Nat) (w : World) (h : mayI c d g e f = true) (hl : inp.size ≤ 1048576) (hn : n ≤ 549755813888) :
    Calls Try.prog 9 #[imV c d g e f, .string inp, .int .i64 (n : Int)] w (RunP ((Mc.init c d g e f inp).stepN n).endV 0 w) := by
  have hnew := fun W => Aside0.mk (new_good c d g e f inp W h hl)
  have hout : Aside0 ((Mc.init c d g e f inp).out.length = 0) := ⟨rfl⟩
  generalize Mc.init c d g e f inp = s at *
  have hb : Aside0 (Below w.heap.size w ((w.alloc (.cells #[.string c, .string d, .int .i64 g, .int .i64 e, .int .i64 f] 23)).alloc (.cells #[.int .i64 0, .int .i32 0, .int .i64 0, .string ⟨#[]⟩, .int .i64 0] 25))) := ⟨below_alloc (below_alloc (Below.refl _ _) _) _⟩
  have hr : Aside0 (((w.alloc (.cells #[.string c, .string d, .int .i64 g, .int .i64 e, .int .i64 f] 23)).alloc (.cells #[.int .i64 0, .int .i32 0, .int .i64 0, .string ⟨#[]⟩, .int .i64 0] 25)).heap[w.heap.size + 1]? = some (.cells #[.int .i64 0, .int .i32 0, .int .i64 0, .string ⟨#[]⟩, .int .i64 0] 25 (0, 0))) := ⟨by have := blk_new (w.alloc (.cells #[.string c, .string d, .int .i64 g, .int .i64 e, .int .i64 f] 23)) (.cells #[.int .i64 0, .int .i32 0, .int .i64 0, .string ⟨#[]⟩, .int .i64 0] 25); simpa using this⟩
  clear h
  go_enter Try.func9, Try.ntmps9
  have q0 : (0 : Int) ≤ (n : Int) := by omega
  go_upto_region 2 with (go_at_call 13; (with_reducible refine (hnew _).out.mono ?_); rintro e' w1 hN; obtain ⟨g1, gm, hh, rfl, W0⟩ := hN.way; clear hN; replace W0 := Aside0.mk W0)
  generalize (w.alloc (.cells #[.string c, .string d, .int .i64 g, .int .i64 e, .int .i64 f] 23)).alloc (.cells #[.int .i64 0, .int .i32 0, .int .i64 0, .string ⟨#[]⟩, .int .i64 0] 25) = W at *
  go_wp2_with fail
  go_loopw [24] (fun i wr => ∃ k : Nat, i = .int .i64 k ∧ k ≤ n ∧ Aside0 (Way s g1 gm hh W k wr)) (fun i _ => n - (intOf i).toNat)
  case atStart => exact ⟨0, rfl, Nat.zero_le _, W0⟩
  case round =>
    obtain ⟨k, rfl, hk, hW⟩ := hrel
    by_cases hlt : k < n
    · cases he : (s.stepN k).ended
      · have hst := Aside0.mk (hW.out.step he (by have := hout.out; omega))
        clear he
        go_wp2_with (go_at_call 15; (with_reducible refine hst.out.mono ?_); rintro e' w2 ⟨rfl, hW2⟩; replace hW2 := Aside0.mk hW2)
        go_roundw
        case rel => exact ⟨k + 1, by go_num, by omega, hW2⟩
        case measure => simp [intOf]; omega
      · have hst := Aside0.mk (hW.out.stop he)
        have hen := Aside0.mk (stepN_ended he n hk)
        clear he
        obtain ⟨a1, a2, a3, a4, a5, hE⟩ := endV_agg (s.stepN k)
        replace hE := Aside0.mk hE
        go_wp2_with first | (go_at_call 15; (with_reducible refine hst.out.mono ?_); rintro e' w2 ⟨rfl, rfl⟩) | (go_at_call 18; (with_reducible refine (hW.out.endA hE.out).mono ?_); rintro e' w3 ⟨rfl, hb3⟩; have hb9 : Aside0 (Below W.heap.size W w3) := ⟨below_step hW.out.bel hb3⟩; have hr9 : Aside0 (w3.heap[w.heap.size + 1]? = some (.cells #[.int .i64 0, .int .i32 0, .int .i64 0, .string ⟨#[]⟩, .int .i64 0] 25 (0, 0))) := ⟨blk_below hr.out hb9.out⟩; have hB9 : Aside0 (Below w.heap.size w w3) := ⟨below_step hb.out hb9.out⟩; obtain ⟨z0, z1, z2, z3, z4, zf⟩ := zs_of hr9.out; have f0 := zf 0; have f1 := zf 1; have f2 := zf 2; have f3 := zf 3; have f4 := zf 4; clear zf hb3)
        exact bodyPost_ret (results_ct rfl _ _ (w.heap.size + 1) 25 #[.int .i64 a1, .int .i32 a2, .int .i64 a3, .string a4, .int .i64 a5] (0, 0) _ rfl (end_put hr9.out a1 a2 a3 a4 a5) Try.underlying25 rfl (by kernel_rfl)) rfl ⟨by rw [hen.out, hE.out]; rfl, below_set (below_set (below_set (below_set (below_set hB9.out (Nat.le_succ _)) (Nat.le_succ _)) (Nat.le_succ _)) (Nat.le_succ _)) (Nat.le_succ _)⟩
    · obtain rfl : k = n := by omega
      clear hlt
      obtain ⟨a1, a2, a3, a4, a5, hE⟩ := endV_agg (s.stepN k)
      replace hE := Aside0.mk hE
      go_wp2_with (go_at_call 18; (with_reducible refine (hW.out.endA hE.out).mono ?_); rintro e' w3 ⟨rfl, hb3⟩; have hb9 : Aside0 (Below W.heap.size W w3) := ⟨below_step hW.out.bel hb3⟩; have hr9 : Aside0 (w3.heap[w.heap.size + 1]? = some (.cells #[.int .i64 0, .int .i32 0, .int .i64 0, .string ⟨#[]⟩, .int .i64 0] 25 (0, 0))) := ⟨blk_below hr.out hb9.out⟩; have hB9 : Aside0 (Below w.heap.size w w3) := ⟨below_step hb.out hb9.out⟩; obtain ⟨z0, z1, z2, z3, z4, zf⟩ := zs_of hr9.out; have f0 := zf 0; have f1 := zf 1; have f2 := zf 2; have f3 := zf 3; have f4 := zf 4; clear zf hb3)
      exact bodyPost_ret (results_ct rfl _ _ (w.heap.size + 1) 25 #[.int .i64 a1, .int .i32 a2, .int .i64 a3, .string a4, .int .i64 a5] (0, 0) _ rfl (end_put hr9.out a1 a2 a3 a4 a5) Try.underlying25 rfl (by kernel_rfl)) rfl ⟨by rw [hE.out]; rfl, below_set (below_set (below_set (below_set (below_set hB9.out (Nat.le_succ _)) (Nat.le_succ _)) (Nat.le_succ _)) (Nat.le_succ _)) (Nat.le_succ _)⟩
def zEnd : Value := .agg #[.int .i64 0, .int .i32 0, .int .i64 0, .string ⟨#[]⟩, .int .i64 0]
set_option maxHeartbeats 8000000 in
set_option maxRecDepth 100000 in
theorem run_bad (c d : ByteArray) (g e f : Int) (inp : ByteArray) (n : Int) (w : World) (hi : inp.size ≤ 9223372036854775807) (h : mayI c d g e f = false) :
    Calls Try.prog 9 #[imV c d g e f, .string inp, .int .i64 n] w (RunP zEnd 1 w) := by
  have hnew := fun W => Aside0.mk (new_bad c d g e f inp W hi h)
  have hb : Aside0 (Below w.heap.size w ((w.alloc (.cells #[.string c, .string d, .int .i64 g, .int .i64 e, .int .i64 f] 23)).alloc (.cells #[.int .i64 0, .int .i32 0, .int .i64 0, .string ⟨#[]⟩, .int .i64 0] 25))) := ⟨below_alloc (below_alloc (Below.refl _ _) _) _⟩
  have hr : Aside0 (((w.alloc (.cells #[.string c, .string d, .int .i64 g, .int .i64 e, .int .i64 f] 23)).alloc (.cells #[.int .i64 0, .int .i32 0, .int .i64 0, .string ⟨#[]⟩, .int .i64 0] 25)).heap[w.heap.size + 1]? = some (.cells #[.int .i64 0, .int .i32 0, .int .i64 0, .string ⟨#[]⟩, .int .i64 0] 25 (0, 0))) := ⟨by have := blk_new (w.alloc (.cells #[.string c, .string d, .int .i64 g, .int .i64 e, .int .i64 f] 23)) (.cells #[.int .i64 0, .int .i32 0, .int .i64 0, .string ⟨#[]⟩, .int .i64 0] 25); simpa using this⟩
  clear h
  go_enter Try.func9, Try.ntmps9
  go_upto_region 2 with (go_at_call 13; (with_reducible refine (hnew _).out.mono ?_); rintro e' w1 ⟨rfl, hb1⟩; replace hb1 := Aside0.mk hb1)
  generalize ((w.alloc (.cells #[.string c, .string d, .int .i64 g, .int .i64 e, .int .i64 f] 23)).alloc (.cells #[.int .i64 0, .int .i32 0, .int .i64 0, .string ⟨#[]⟩, .int .i64 0] 25)) = W at *
  have hr9 : Aside0 (w1.heap[w.heap.size + 1]? = some (.cells #[.int .i64 0, .int .i32 0, .int .i64 0, .string ⟨#[]⟩, .int .i64 0] 25 (0, 0))) := ⟨blk_below hr.out hb1.out⟩
  have hB9 : Aside0 (Below w.heap.size w w1) := ⟨below_step hb.out hb1.out⟩
  obtain ⟨z0, z1, z2, z3, z4, zf⟩ := zs_of hr9.out
  have f0 := zf 0
  have f1 := zf 1
  have f2 := zf 2
  have f3 := zf 3
  have f4 := zf 4
  clear zf hr hb
  go_wp2_with fail
  exact bodyPost_ret (results_ct rfl _ _ (w.heap.size + 1) 25 #[.int .i64 0, .int .i32 0, .int .i64 0, .string ⟨#[]⟩, .int .i64 0] (0, 0) _ rfl (end_put hr9.out 0 0 0 ⟨#[]⟩ 0) Try.underlying25 rfl (by kernel_rfl)) rfl ⟨rfl, below_set (below_set (below_set (below_set (below_set hB9.out (Nat.le_succ _)) (Nat.le_succ _)) (Nat.le_succ _)) (Nat.le_succ _)) (Nat.le_succ _)⟩
set_option maxHeartbeats 8000000 in
set_option maxRecDepth 100000 in
theorem run_long (c d : ByteArray) (g e f : Int) (inp : ByteArray) (n : Int) (w : World) (hi : inp.size ≤ 9223372036854775807) (h : mayI c d g e f = true) (hl : 1048576 < inp.size) :
    Calls Try.prog 9 #[imV c d g e f, .string inp, .int .i64 n] w (RunP zEnd 3 w) := by
  have hnew := fun W => Aside0.mk (new_long c d g e f inp W hi h hl)
  have hb : Aside0 (Below w.heap.size w ((w.alloc (.cells #[.string c, .string d, .int .i64 g, .int .i64 e, .int .i64 f] 23)).alloc (.cells #[.int .i64 0, .int .i32 0, .int .i64 0, .string ⟨#[]⟩, .int .i64 0] 25))) := ⟨below_alloc (below_alloc (Below.refl _ _) _) _⟩
  have hr : Aside0 (((w.alloc (.cells #[.string c, .string d, .int .i64 g, .int .i64 e, .int .i64 f] 23)).alloc (.cells #[.int .i64 0, .int .i32 0, .int .i64 0, .string ⟨#[]⟩, .int .i64 0] 25)).heap[w.heap.size + 1]? = some (.cells #[.int .i64 0, .int .i32 0, .int .i64 0, .string ⟨#[]⟩, .int .i64 0] 25 (0, 0))) := ⟨by have := blk_new (w.alloc (.cells #[.string c, .string d, .int .i64 g, .int .i64 e, .int .i64 f] 23)) (.cells #[.int .i64 0, .int .i32 0, .int .i64 0, .string ⟨#[]⟩, .int .i64 0] 25); simpa using this⟩
  clear h
  go_enter Try.func9, Try.ntmps9
  go_upto_region 2 with (go_at_call 13; (with_reducible refine (hnew _).out.mono ?_); rintro e' w1 ⟨rfl, hb1⟩; replace hb1 := Aside0.mk hb1)
  generalize ((w.alloc (.cells #[.string c, .string d, .int .i64 g, .int .i64 e, .int .i64 f] 23)).alloc (.cells #[.int .i64 0, .int .i32 0, .int .i64 0, .string ⟨#[]⟩, .int .i64 0] 25)) = W at *
  have hr9 : Aside0 (w1.heap[w.heap.size + 1]? = some (.cells #[.int .i64 0, .int .i32 0, .int .i64 0, .string ⟨#[]⟩, .int .i64 0] 25 (0, 0))) := ⟨blk_below hr.out hb1.out⟩
  have hB9 : Aside0 (Below w.heap.size w w1) := ⟨below_step hb.out hb1.out⟩
  obtain ⟨z0, z1, z2, z3, z4, zf⟩ := zs_of hr9.out
  have f0 := zf 0
  have f1 := zf 1
  have f2 := zf 2
  have f3 := zf 3
  have f4 := zf 4
  clear zf hr hb
  go_wp2_with fail
  exact bodyPost_ret (results_ct rfl _ _ (w.heap.size + 1) 25 #[.int .i64 0, .int .i32 0, .int .i64 0, .string ⟨#[]⟩, .int .i64 0] (0, 0) _ rfl (end_put hr9.out 0 0 0 ⟨#[]⟩ 0) Try.underlying25 rfl (by kernel_rfl)) rfl ⟨rfl, below_set (below_set (below_set (below_set (below_set hB9.out (Nat.le_succ _)) (Nat.le_succ _)) (Nat.le_succ _)) (Nat.le_succ _)) (Nat.le_succ _)⟩
set_option maxHeartbeats 8000000 in
set_option maxRecDepth 100000 in
theorem run_neg (c d : ByteArray) (g e f : Int) (inp : ByteArray) (n : Int) (w : World) (hi : inp.size ≤ 9223372036854775807) (h : mayI c d g e f = true) (hl : inp.size ≤ 1048576) (hn : n < 0) :
    Calls Try.prog 9 #[imV c d g e f, .string inp, .int .i64 n] w (RunP zEnd 1 w) := by
  have hnew := fun W => Aside0.mk (new_good c d g e f inp W h hl)
  have hb : Aside0 (Below w.heap.size w ((w.alloc (.cells #[.string c, .string d, .int .i64 g, .int .i64 e, .int .i64 f] 23)).alloc (.cells #[.int .i64 0, .int .i32 0, .int .i64 0, .string ⟨#[]⟩, .int .i64 0] 25))) := ⟨below_alloc (below_alloc (Below.refl _ _) _) _⟩
  have hr : Aside0 (((w.alloc (.cells #[.string c, .string d, .int .i64 g, .int .i64 e, .int .i64 f] 23)).alloc (.cells #[.int .i64 0, .int .i32 0, .int .i64 0, .string ⟨#[]⟩, .int .i64 0] 25)).heap[w.heap.size + 1]? = some (.cells #[.int .i64 0, .int .i32 0, .int .i64 0, .string ⟨#[]⟩, .int .i64 0] 25 (0, 0))) := ⟨by have := blk_new (w.alloc (.cells #[.string c, .string d, .int .i64 g, .int .i64 e, .int .i64 f] 23)) (.cells #[.int .i64 0, .int .i32 0, .int .i64 0, .string ⟨#[]⟩, .int .i64 0] 25); simpa using this⟩
  clear h
  go_enter Try.func9, Try.ntmps9
  go_upto_region 2 with (go_at_call 13; (with_reducible refine (hnew _).out.mono ?_); rintro e' w1 hN; obtain ⟨g1, gm, hh, rfl, W0⟩ := hN.way; clear hN; have hb1 := Aside0.mk W0.bel; clear W0)
  generalize ((w.alloc (.cells #[.string c, .string d, .int .i64 g, .int .i64 e, .int .i64 f] 23)).alloc (.cells #[.int .i64 0, .int .i32 0, .int .i64 0, .string ⟨#[]⟩, .int .i64 0] 25)) = W at *
  have hr9 : Aside0 (w1.heap[w.heap.size + 1]? = some (.cells #[.int .i64 0, .int .i32 0, .int .i64 0, .string ⟨#[]⟩, .int .i64 0] 25 (0, 0))) := ⟨blk_below hr.out hb1.out⟩
  have hB9 : Aside0 (Below w.heap.size w w1) := ⟨below_step hb.out hb1.out⟩
  obtain ⟨z0, z1, z2, z3, z4, zf⟩ := zs_of hr9.out
  have f0 := zf 0
  have f1 := zf 1
  have f2 := zf 2
  have f3 := zf 3
  have f4 := zf 4
  clear zf hr hb
  go_wp2_with fail
  exact bodyPost_ret (results_ct rfl _ _ (w.heap.size + 1) 25 #[.int .i64 0, .int .i32 0, .int .i64 0, .string ⟨#[]⟩, .int .i64 0] (0, 0) _ rfl (end_put hr9.out 0 0 0 ⟨#[]⟩ 0) Try.underlying25 rfl (by kernel_rfl)) rfl ⟨rfl, below_set (below_set (below_set (below_set (below_set hB9.out (Nat.le_succ _)) (Nat.le_succ _)) (Nat.le_succ _)) (Nat.le_succ _)) (Nat.le_succ _)⟩
/-- What Run tells. -/
def runV (c d : ByteArray) (g e f : Int) (inp : ByteArray) (n : Int) : Value × Int :=
  if mayI c d g e f = false then (zEnd, 1) else if 1048576 < inp.size then (zEnd, 3) else if n < 0 then (zEnd, 1) else (((Mc.init c d g e f inp).stepN n.toNat).endV, 0)
theorem runP (c d : ByteArray) (g e f : Int) (inp : ByteArray) (n : Int) (w : World) (hi : inp.size ≤ 9223372036854775807) (hn : n ≤ 549755813888) :
    Calls Try.prog 9 #[imV c d g e f, .string inp, .int .i64 n] w (RunP (runV c d g e f inp n).1 (runV c d g e f inp n).2 w) := by
  unfold runV
  by_cases h : mayI c d g e f = false
  · rw [if_pos h]; exact run_bad c d g e f inp n w hi h
  · rw [if_neg h]
    have h' : mayI c d g e f = true := by simpa using h
    by_cases hl : 1048576 < inp.size
    · rw [if_pos hl]; exact run_long c d g e f inp n w hi h' hl
    · rw [if_neg hl]
      by_cases h0 : n < 0
      · rw [if_pos h0]; exact run_neg c d g e f inp n w hi h' (by omega) h0
      · rw [if_neg h0]
        have := run_good c d g e f inp n.toNat w h' (by omega) (by omega)
        rw [show ((n.toNat : Nat) : Int) = n by omega] at this
        exact this
end Go.Proofs.Ytbhkfdjofopfkaa.MemA
