/- The laws of functions and of programs. -/
import Derived.Test.YtobikiffjanagaaIrO
namespace Go.Proofs.Ytobikiffjanagaa.IrA
open Go.RowKit Go.Proofs.YtobikiffjanagaaW.PrintWords Go.Proofs.YtobikiffjanagaaW.PrintLast Go.Proofs.YtobikiffjanagaaW.PrintMore Go.Proofs.Ytobikiffjanagaa.GF
set_option linter.unusedVariables false
set_option linter.unusedSimpArgs false
variable {w : World} {A0 A2 A8 : Option Addr} {n0 c0 n2 c2 c8 : Nat} {glob main pa re sl : Int} {nm : ByteArray} {fs : List S33} {bs : List S58} {ds : List S51}

set_option maxHeartbeats 4000000 in
set_option maxRecDepth 100000 in
theorem errno (b : Bool) (w : World) : Calls Try.prog 9 #[.bool b] w (RetB (.int .i64 (cer b)) w) := by
  cases b
  · go_enter Try.func9, Try.ntmps9
    go_wp2
    go_ret
    exact ⟨rfl, Below.refl _ _⟩
  · go_enter Try.func9, Try.ntmps9
    go_wp2
    go_ret
    exact ⟨rfl, Below.refl _ _⟩

set_option maxHeartbeats 16000000 in
set_option maxRecDepth 100000 in
theorem funcs_law (hgd : Aside0 (∀ b ∈ bs, gd58 b)) (hf : Aside0 (Kd.C k33 w A0 fs.length fs)) (hb : Aside0 (Kd.C k58 w A8 bs.length bs)) :
    Calls Try.prog 4 #[pv A0 fs.length c0 glob A2 n2 c2 main, fv nm pa re sl A8 bs.length c8] w (RetB (.bool true) w) := by
  have hB : Below w.heap.size w ((w.alloc (pb A0 fs.length c0 glob A2 n2 c2 main)).alloc (fb nm pa re sl A8 bs.length c8)) := below_alloc (below_alloc (Below.refl _ _) _) _
  have e0 : ((w.alloc (pb A0 fs.length c0 glob A2 n2 c2 main)).alloc (fb nm pa re sl A8 bs.length c8)).heap[w.heap.size]? = some (pb A0 fs.length c0 glob A2 n2 c2 main) := blk_alloc (blk_new w _) _
  have e1 := blk_new (w.alloc (pb A0 fs.length c0 glob A2 n2 c2 main)) (fb nm pa re sl A8 bs.length c8)
  simp only [World.size_alloc] at e1
  have h12 : Aside0 (∀ W, Below w.heap.size w W → Calls Try.prog 12 #[pv A0 fs.length c0 glob A2 n2 c2 main, fv nm pa re sl A8 bs.length c8] W (RetB (.int .i64 (cer (checkB fs glob pa re sl bs))) W)) := ⟨fun W b => checkFunc hgd rfl ⟨Kd.C_below hf.out b⟩ ⟨Kd.C_below hb.out b⟩⟩
  have h13 : Aside0 (∀ W, Below w.heap.size w W → Calls Try.prog 13 #[pv A0 fs.length c0 glob A2 n2 c2 main, fv nm pa re sl A8 bs.length c8] W (RetB (.bool (checkB fs glob pa re sl bs)) W)) := ⟨fun W b => func hgd rfl ⟨Kd.C_below hf.out b⟩ ⟨Kd.C_below hb.out b⟩⟩
  have h9 := Aside0.mk (fun W => errno (checkB fs glob pa re sl bs) W)
  generalize checkB fs glob pa re sl bs = C at *
  generalize cer C = K at *
  go_enter Try.func4, Try.ntmps4
  go_wp2_with fail
  generalize (w.alloc (pb A0 fs.length c0 glob A2 n2 c2 main)).alloc (fb nm pa re sl A8 bs.length c8) = W0 at *
  have z0 : W0.cell? ⟨w.heap.size, 0, none⟩ = some (.slice A0 fs.length c0) := (blk_cell e0 0).trans rfl
  have z1 : W0.cell? ⟨w.heap.size, 1, none⟩ = some (.int .i64 glob) := (blk_cell e0 1).trans rfl
  have z2 : W0.cell? ⟨w.heap.size, 2, none⟩ = some (.slice A2 n2 c2) := (blk_cell e0 2).trans rfl
  have z3 : W0.cell? ⟨w.heap.size, 3, none⟩ = some (.int .i64 main) := (blk_cell e0 3).trans rfl
  have y0 : W0.cell? ⟨w.heap.size + 1, 0, none⟩ = some (.string nm) := (blk_cell e1 0).trans rfl
  have y1 : W0.cell? ⟨w.heap.size + 1, 1, none⟩ = some (.int .i64 pa) := (blk_cell e1 1).trans rfl
  have y2 : W0.cell? ⟨w.heap.size + 1, 2, none⟩ = some (.int .i64 re) := (blk_cell e1 2).trans rfl
  have y3 : W0.cell? ⟨w.heap.size + 1, 3, none⟩ = some (.int .i64 sl) := (blk_cell e1 3).trans rfl
  have y4 : W0.cell? ⟨w.heap.size + 1, 4, none⟩ = some (.slice A8 bs.length c8) := (blk_cell e1 4).trans rfl
  have s0 : w.heap.size < W0.heap.size := blk_lt e0
  have s1 : w.heap.size + 1 < W0.heap.size := blk_lt e1
  clear e0 e1
  go_region_held3 (fun w' => Below w.heap.size w w' ∧ w.heap.size < w'.heap.size ∧ w.heap.size + 1 < w'.heap.size ∧ w'.cell? ⟨w.heap.size, 0, none⟩ = some (.slice A0 fs.length c0) ∧ w'.cell? ⟨w.heap.size, 1, none⟩ = some (.int .i64 glob) ∧ w'.cell? ⟨w.heap.size, 2, none⟩ = some (.slice A2 n2 c2) ∧ w'.cell? ⟨w.heap.size, 3, none⟩ = some (.int .i64 main) ∧ w'.cell? ⟨w.heap.size + 1, 0, none⟩ = some (.string nm) ∧ w'.cell? ⟨w.heap.size + 1, 1, none⟩ = some (.int .i64 pa) ∧ w'.cell? ⟨w.heap.size + 1, 2, none⟩ = some (.int .i64 re) ∧ w'.cell? ⟨w.heap.size + 1, 3, none⟩ = some (.int .i64 sl) ∧ w'.cell? ⟨w.heap.size + 1, 4, none⟩ = some (.slice A8 bs.length c8))
    (first | exact ⟨below_drew hB, s0, s1, z0, z1, z2, z3, y0, y1, y2, y3, y4⟩ | (go_split_ands; exact ⟨below_step ‹_› ‹_›, Nat.lt_of_lt_of_le ‹w.heap.size < _› (Below.size ‹_›), Nat.lt_of_lt_of_le ‹w.heap.size + 1 < _› (Below.size ‹_›), by rw [Below.cell ‹_› ‹w.heap.size < _›]; assumption, by rw [Below.cell ‹_› ‹w.heap.size < _›]; assumption, by rw [Below.cell ‹_› ‹w.heap.size < _›]; assumption, by rw [Below.cell ‹_› ‹w.heap.size < _›]; assumption, by rw [Below.cell ‹_› ‹w.heap.size + 1 < _›]; assumption, by rw [Below.cell ‹_› ‹w.heap.size + 1 < _›]; assumption, by rw [Below.cell ‹_› ‹w.heap.size + 1 < _›]; assumption, by rw [Below.cell ‹_› ‹w.heap.size + 1 < _›]; assumption, by rw [Below.cell ‹_› ‹w.heap.size + 1 < _›]; assumption⟩))
    (first | (go_at_call 12; refine (h12.out _ (by first | exact below_drew hB | assumption | (go_split_ands; assumption))).mono ?_; rintro e w' ⟨rfl, hb⟩) | (go_at_call 13; refine (h13.out _ (by first | exact below_drew hB | assumption | (go_split_ands; assumption))).mono ?_; rintro e w' ⟨rfl, hb⟩) | (go_at_call 9; refine (h9.out _).mono ?_; rintro e w' ⟨rfl, hb⟩) | (go_at_call 11; refine (awake _).mono ?_; rintro e w' ⟨rfl, hb⟩))
  go_split_ands
  go_wp2
  go_ret
  exact ⟨rfl, by assumption⟩
end Go.Proofs.Ytobikiffjanagaa.IrA
