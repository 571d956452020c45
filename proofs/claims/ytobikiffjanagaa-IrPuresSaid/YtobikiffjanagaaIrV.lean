/- The law of pure instructions. -/
import Derived.Test.YtobikiffjanagaaIrR
namespace Go.Proofs.Ytobikiffjanagaa.IrA
open Go.RowKit Go.Proofs.YtobikiffjanagaaW.PrintWords Go.Proofs.YtobikiffjanagaaW.PrintLast Go.Proofs.YtobikiffjanagaaW.PrintMore Go.Proofs.Ytobikiffjanagaa.GF
set_option linter.unusedVariables false
set_option linter.unusedSimpArgs false

def trB (a : Int) : Bool := a == 4 || (a == 5 || (a == 6 || a == 7))
set_option maxHeartbeats 4000000 in
set_option maxRecDepth 100000 in
theorem traps (a : Int) (w : World) : Calls Try.prog 32 #[.int .i64 a] w (Ret (.bool (trB a)) w) := by
  have e : trB a = (a == 4 || (a == 5 || (a == 6 || a == 7))) := rfl
  rw [e]
  clear e
  cases h4 : (a == 4)
  · cases h5 : (a == 5)
    · cases h6 : (a == 6)
      · cases h7 : (a == 7)
        all_goals
          go_enter Try.func32, Try.ntmps32
          go_wp2
          go_ret
          exact ⟨rfl, rfl⟩
      · go_enter Try.func32, Try.ntmps32
        go_wp2
        go_ret
        exact ⟨rfl, rfl⟩
    · go_enter Try.func32, Try.ntmps32
      go_wp2
      go_ret
      exact ⟨rfl, rfl⟩
  · go_enter Try.func32, Try.ntmps32
    go_wp2
    go_ret
    exact ⟨rfl, rfl⟩
set_option maxHeartbeats 4000000 in
set_option maxRecDepth 100000 in
theorem rtraps (a : Int) (w : World) : Calls Try.prog 33 #[.int .i64 a] w (Ret (.bool (trB a)) w) := by
  have e : trB a = (a == 4 || (a == 5 || (a == 6 || a == 7))) := rfl
  rw [e]
  clear e
  cases h4 : (a == 4)
  · cases h5 : (a == 5)
    · cases h6 : (a == 6)
      · cases h7 : (a == 7)
        all_goals
          go_enter Try.func33, Try.ntmps33
          go_wp2
          go_ret
          exact ⟨rfl, rfl⟩
      · go_enter Try.func33, Try.ntmps33
        go_wp2
        go_ret
        exact ⟨rfl, rfl⟩
    · go_enter Try.func33, Try.ntmps33
      go_wp2
      go_ret
      exact ⟨rfl, rfl⟩
  · go_enter Try.func33, Try.ntmps33
    go_wp2
    go_ret
    exact ⟨rfl, rfl⟩
def p5 (o : Int) : Bool := o == 1 || (o == 2 || (o == 4 || (o == 5 || o == 12)))
def pureB (x : S44) : Bool := p5 x.f0 || (x.f0 == 3 && (wi x.f4 1 19 && !trB x.f4))
variable {w : World} (x : S44) (B2 B6 : Option Addr) (d2 d6 : Nat)

set_option maxHeartbeats 8000000 in
set_option maxRecDepth 100000 in
theorem pure_walk : Calls Try.prog 19 #[iv x B2 B6 d2 d6] w (RetB (.bool (pureB x)) w) := by
  have hB : Aside0 (Below w.heap.size w (w.alloc (ib x B2 B6 d2 d6))) := ⟨below_alloc (Below.refl _ _) _⟩
  have hp : Aside0 (pureB x = ((x.f0 == 1 || (x.f0 == 2 || (x.f0 == 4 || (x.f0 == 5 || x.f0 == 12)))) || (x.f0 == 3 && (wi x.f4 1 19 && !trB x.f4)))) := ⟨rfl⟩
  generalize pureB x = R at *
  cases h1 : (x.f0 == 1)
  case true =>
    have hR : Aside0 (R = true) := ⟨by rw [hp.out, h1]; rfl⟩
    clear hp
    go_enter Try.func19, Try.ntmps19
    go_wp2
    go_ret
    rw [hR.out]
    exact ⟨rfl, hB.out⟩
  cases h2 : (x.f0 == 2)
  case true =>
    have hR : Aside0 (R = true) := ⟨by rw [hp.out, h1, h2]; rfl⟩
    clear hp
    go_enter Try.func19, Try.ntmps19
    go_wp2
    go_ret
    rw [hR.out]
    exact ⟨rfl, hB.out⟩
  cases h4 : (x.f0 == 4)
  case true =>
    have hR : Aside0 (R = true) := ⟨by rw [hp.out, h1, h2, h4]; rfl⟩
    clear hp
    go_enter Try.func19, Try.ntmps19
    go_wp2
    go_ret
    rw [hR.out]
    exact ⟨rfl, hB.out⟩
  cases h5 : (x.f0 == 5)
  case true =>
    have hR : Aside0 (R = true) := ⟨by rw [hp.out, h1, h2, h4, h5]; rfl⟩
    clear hp
    go_enter Try.func19, Try.ntmps19
    go_wp2
    go_ret
    rw [hR.out]
    exact ⟨rfl, hB.out⟩
  cases h12 : (x.f0 == 12)
  case true =>
    have hR : Aside0 (R = true) := ⟨by rw [hp.out, h1, h2, h4, h5, h12]; rfl⟩
    clear hp
    go_enter Try.func19, Try.ntmps19
    go_wp2
    go_ret
    rw [hR.out]
    exact ⟨rfl, hB.out⟩
  cases h3 : (x.f0 == 3)
  case false =>
    have hR : Aside0 (R = false) := ⟨by rw [hp.out, h1, h2, h4, h5, h12, h3]; rfl⟩
    clear hp
    go_enter Try.func19, Try.ntmps19
    go_wp2
    go_ret
    rw [hR.out]
    exact ⟨rfl, hB.out⟩
  have q1 := Aside0.mk (within x.f4 1 19)
  have q2 := Aside0.mk (traps x.f4)
  have hR : Aside0 (R = (wi x.f4 1 19 && !trB x.f4)) := ⟨by rw [hp.out, h1, h2, h4, h5, h12, h3]; rfl⟩
  clear hp
  generalize wi x.f4 1 19 = a at *
  generalize trB x.f4 = b at *
  cases a <;> cases b
  all_goals
    go_enter Try.func19, Try.ntmps19
    go_wp2_with (first | ((with_reducible refine (q1.out _).mono ?_); rintro e w' ⟨rfl, rfl⟩) | ((with_reducible refine (q2.out _).mono ?_); rintro e w' ⟨rfl, rfl⟩))
    go_ret
    rw [hR.out]
    exact ⟨rfl, hB.out⟩

set_option maxHeartbeats 8000000 in
set_option maxRecDepth 100000 in
theorem rpure_walk : Calls Try.prog 20 #[iv x B2 B6 d2 d6] w (RetB (.bool (pureB x)) w) := by
  have hB : Aside0 (Below w.heap.size w (w.alloc (ib x B2 B6 d2 d6))) := ⟨below_alloc (Below.refl _ _) _⟩
  have hp : Aside0 (pureB x = ((x.f0 == 1 || (x.f0 == 2 || (x.f0 == 4 || (x.f0 == 5 || x.f0 == 12)))) || (x.f0 == 3 && (wi x.f4 1 19 && !trB x.f4)))) := ⟨rfl⟩
  generalize pureB x = R at *
  cases h1 : (x.f0 == 1)
  case true =>
    have hR : Aside0 (R = true) := ⟨by rw [hp.out, h1]; rfl⟩
    clear hp
    go_enter Try.func20, Try.ntmps20
    go_wp2
    go_ret
    rw [hR.out]
    exact ⟨rfl, hB.out⟩
  cases h2 : (x.f0 == 2)
  case true =>
    have hR : Aside0 (R = true) := ⟨by rw [hp.out, h1, h2]; rfl⟩
    clear hp
    go_enter Try.func20, Try.ntmps20
    go_wp2
    go_ret
    rw [hR.out]
    exact ⟨rfl, hB.out⟩
  cases h4 : (x.f0 == 4)
  case true =>
    have hR : Aside0 (R = true) := ⟨by rw [hp.out, h1, h2, h4]; rfl⟩
    clear hp
    go_enter Try.func20, Try.ntmps20
    go_wp2
    go_ret
    rw [hR.out]
    exact ⟨rfl, hB.out⟩
  cases h5 : (x.f0 == 5)
  case true =>
    have hR : Aside0 (R = true) := ⟨by rw [hp.out, h1, h2, h4, h5]; rfl⟩
    clear hp
    go_enter Try.func20, Try.ntmps20
    go_wp2
    go_ret
    rw [hR.out]
    exact ⟨rfl, hB.out⟩
  cases h12 : (x.f0 == 12)
  case true =>
    have hR : Aside0 (R = true) := ⟨by rw [hp.out, h1, h2, h4, h5, h12]; rfl⟩
    clear hp
    go_enter Try.func20, Try.ntmps20
    go_wp2
    go_ret
    rw [hR.out]
    exact ⟨rfl, hB.out⟩
  cases h3 : (x.f0 == 3)
  case false =>
    have hR : Aside0 (R = false) := ⟨by rw [hp.out, h1, h2, h4, h5, h12, h3]; rfl⟩
    clear hp
    go_enter Try.func20, Try.ntmps20
    go_wp2
    go_ret
    rw [hR.out]
    exact ⟨rfl, hB.out⟩
  have q2 := Aside0.mk (rtraps x.f4)
  have hR : Aside0 (R = (wi x.f4 1 19 && !trB x.f4)) := ⟨by rw [hp.out, h1, h2, h4, h5, h12, h3]; rfl⟩
  clear hp
  have hw : Aside0 (wi x.f4 1 19 = (decide (1 ≤ x.f4) && decide (x.f4 ≤ 19))) := ⟨rfl⟩
  generalize wi x.f4 1 19 = a at *
  generalize trB x.f4 = b at *
  by_cases k1 : 1 ≤ x.f4
  · by_cases k2 : x.f4 ≤ 19
    · rw [show a = true by rw [hw.out]; simp [k1, k2]] at hR
      cases b
      all_goals
        go_enter Try.func20, Try.ntmps20
        go_wp2_with ((with_reducible refine (q2.out _).mono ?_); rintro e w' ⟨rfl, rfl⟩)
        go_ret
        rw [hR.out]
        exact ⟨rfl, hB.out⟩
    · rw [show a = false by rw [hw.out]; simp [k2]] at hR
      go_enter Try.func20, Try.ntmps20
      go_wp2
      go_ret
      rw [hR.out]
      exact ⟨rfl, hB.out⟩
  · rw [show a = false by rw [hw.out]; simp [k1]] at hR
    go_enter Try.func20, Try.ntmps20
    go_wp2
    go_ret
    rw [hR.out]
    exact ⟨rfl, hB.out⟩

set_option maxHeartbeats 8000000 in
set_option maxRecDepth 100000 in
theorem pures_law : Calls Try.prog 6 #[iv x B2 B6 d2 d6] w (RetB (.bool true) w) := by
  have hB : Below w.heap.size w (w.alloc (ib x B2 B6 d2 d6)) := below_alloc (Below.refl _ _) _
  have e0 := blk_new w (ib x B2 B6 d2 d6)
  have h19 := Aside0.mk (fun W => pure_walk (w := W) x B2 B6 d2 d6)
  have h20 := Aside0.mk (fun W => rpure_walk (w := W) x B2 B6 d2 d6)
  generalize pureB x = K at *
  go_enter Try.func6, Try.ntmps6
  go_wp2_with fail
  generalize w.alloc (ib x B2 B6 d2 d6) = W0 at *
  have z0 : W0.cell? ⟨w.heap.size, 0, none⟩ = some (.int .i64 x.f0) := (blk_cell e0 0).trans rfl
  have z1 : W0.cell? ⟨w.heap.size, 1, none⟩ = some (.int .i64 x.f1) := (blk_cell e0 1).trans rfl
  have z2 : W0.cell? ⟨w.heap.size, 2, none⟩ = some (.slice B2 x.f2.length d2) := (blk_cell e0 2).trans rfl
  have z3 : W0.cell? ⟨w.heap.size, 3, none⟩ = some (.int .i32 x.f3) := (blk_cell e0 3).trans rfl
  have z4 : W0.cell? ⟨w.heap.size, 4, none⟩ = some (.int .i64 x.f4) := (blk_cell e0 4).trans rfl
  have z5 : W0.cell? ⟨w.heap.size, 5, none⟩ = some (.int .i64 x.f5) := (blk_cell e0 5).trans rfl
  have z6 : W0.cell? ⟨w.heap.size, 6, none⟩ = some (.slice B6 x.f6.length d6) := (blk_cell e0 6).trans rfl
  have s0 : w.heap.size < W0.heap.size := blk_lt e0
  clear e0
  go_region_held3 (fun w' => Below w.heap.size w w' ∧ w.heap.size < w'.heap.size ∧ w'.cell? ⟨w.heap.size, 0, none⟩ = some (.int .i64 x.f0) ∧ w'.cell? ⟨w.heap.size, 1, none⟩ = some (.int .i64 x.f1) ∧ w'.cell? ⟨w.heap.size, 2, none⟩ = some (.slice B2 x.f2.length d2) ∧ w'.cell? ⟨w.heap.size, 3, none⟩ = some (.int .i32 x.f3) ∧ w'.cell? ⟨w.heap.size, 4, none⟩ = some (.int .i64 x.f4) ∧ w'.cell? ⟨w.heap.size, 5, none⟩ = some (.int .i64 x.f5) ∧ w'.cell? ⟨w.heap.size, 6, none⟩ = some (.slice B6 x.f6.length d6))
    (first | exact ⟨below_drew hB, s0, z0, z1, z2, z3, z4, z5, z6⟩ | (go_split_ands; exact ⟨below_step ‹_› ‹_›, Nat.lt_of_lt_of_le ‹w.heap.size < _› (Below.size ‹_›), by rw [Below.cell ‹_› ‹w.heap.size < _›]; assumption, by rw [Below.cell ‹_› ‹w.heap.size < _›]; assumption, by rw [Below.cell ‹_› ‹w.heap.size < _›]; assumption, by rw [Below.cell ‹_› ‹w.heap.size < _›]; assumption, by rw [Below.cell ‹_› ‹w.heap.size < _›]; assumption, by rw [Below.cell ‹_› ‹w.heap.size < _›]; assumption, by rw [Below.cell ‹_› ‹w.heap.size < _›]; assumption⟩))
    (first | (go_at_call 19; refine (h19.out _).mono ?_; rintro e w' ⟨rfl, hb⟩) | (go_at_call 20; refine (h20.out _).mono ?_; rintro e w' ⟨rfl, hb⟩) | (go_at_call 11; refine (awake _).mono ?_; rintro e w' ⟨rfl, hb⟩))
  go_split_ands
  go_wp2
  go_ret
  exact ⟨rfl, by assumption⟩
end Go.Proofs.Ytobikiffjanagaa.IrA
