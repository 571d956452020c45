/- The walk of the law that images are told back. -/
import Derived.Test.YtbalpmpaccfpiaaLaw2
namespace Go.Proofs.Ytbalpmpaccfpiaa.WalkBack
open Go.RowKit Go.Proofs.Ytbalpmpaccfpiaa.PImageReads Go.Proofs.Ytbalpmpaccfpiaa.Number Go.Proofs.Ytbalpmpaccfpiaa.Write Go.Proofs.Ytbalpmpaccfpiaa.Law1 Go.Proofs.Ytbalpmpaccfpiaa.Law2 Go.Proofs.YtbalpmpaccfpiaaW.PrintWords Go.Proofs.YtbalpmpaccfpiaaW.PrintLast Go.Proofs.YtbalpmpaccfpiaaW.PrintMore
set_option linter.unusedVariables false
set_option linter.unusedSimpArgs false

def im (C D : ByteArray) (g e f : Int) : Value := .agg #[.string C, .string D, .int .i64 g, .int .i64 e, .int .i64 f]
def wrote (s : ByteArray) (c : Int) : Ending := .returned (.tuple #[.string s, .int .i64 c])

set_option maxHeartbeats 8000000 in
set_option maxRecDepth 100000 in
/-- An image that may not be. -/
theorem no (C D : ByteArray) (g e f at1 by1 c : Int) (w : World) (hc : (c == 0) = false)
    (h1 : Hid (∀ w, Calls Try.prog 6 #[.agg #[.string C, .string D, .int .i64 g, .int .i64 e, .int .i64 f]] w fun e w' => e = .returned (.tuple #[.string ⟨#[]⟩, .int .i64 c]) ∧ Below w.heap.size w w')) :
    Calls Try.prog 5 #[.agg #[.string C, .string D, .int .i64 g, .int .i64 e, .int .i64 f], .int .i64 at1, .int .u8 by1] w fun x w' => x = .returned (.bool true) ∧ Below w.heap.size w w' := by
  go_enter Try.func5, Try.ntmps5
  go_wp2_with fail
  (with_reducible refine (h1.out _).mono ?_)
  rintro e1 w1 ⟨rfl, hb⟩
  have hb1 : Aside0 (Below w.heap.size w w1) := ⟨below_then (below_alloc (Below.refl _ _) _) (by simp) hb⟩
  clear hb
  go_wp2_with fail
  (with_reducible refine (awake _).mono ?_)
  rintro e3 w3 ⟨rfl, hb⟩
  have hb3 : Aside0 (Below w.heap.size w w3) := ⟨below_then hb1.out hb1.out.size hb⟩
  go_wp2
  go_ret
  exact ⟨rfl, hb3.out⟩

set_option maxHeartbeats 8000000 in
set_option maxRecDepth 100000 in
/-- An image that may be, with no byte to change. -/
theorem stay (C D s : ByteArray) (g e f at1 by1 : Int) (w : World) (hs : (s.size : Int) ≤ 1048576) (hat : at1 < 0 ∨ (s.size : Int) ≤ at1 ∨ by1 = 0)
    (h1 : Hid (∀ w, Calls Try.prog 6 #[.agg #[.string C, .string D, .int .i64 g, .int .i64 e, .int .i64 f]] w fun e w' => e = .returned (.tuple #[.string s, .int .i64 0]) ∧ Below w.heap.size w w'))
    (h2 : Hid (∀ w, Calls Try.prog 9 #[.string s] w fun e' w' => e' = .returned (.tuple #[.agg #[.string C, .string D, .int .i64 g, .int .i64 e, .int .i64 f], .int .i64 0]) ∧ Below w.heap.size w w')) :
    Calls Try.prog 5 #[.agg #[.string C, .string D, .int .i64 g, .int .i64 e, .int .i64 f], .int .i64 at1, .int .u8 by1] w fun x w' => x = .returned (.bool true) ∧ Below w.heap.size w w' := by
  go_enter Try.func5, Try.ntmps5
  go_wp2_with fail
  (with_reducible refine (h1.out _).mono ?_)
  rintro e1 w1 ⟨rfl, hb⟩
  have hz1 : w.heap.size < w1.heap.size := by have := hb.size; simp at this; omega
  have k1 : ∀ (j : Nat) v, (#[Value.string C, .string D, .int .i64 g, .int .i64 e, .int .i64 f] : Array Value)[j]? = some v → w1.cell? ⟨w.heap.size, j, none⟩ = some v := fun j v hj => ((bcell hb).1 _ _ (by simp)).trans ((blk_cell (blk_new w _) j).trans hj)
  have k1 := Lib.hid k1
  have hb1 : Aside0 (Below w.heap.size w w1) := ⟨below_then (below_alloc (Below.refl _ _) _) (by simp) hb⟩
  clear hb
  go_wp2_with fail
  (with_reducible refine (h2.out _).mono ?_)
  rintro e2 w2 ⟨rfl, hb⟩
  have k2 : ∀ (j : Nat) v, (#[Value.string C, .string D, .int .i64 g, .int .i64 e, .int .i64 f] : Array Value)[j]? = some v → w2.cell? ⟨w.heap.size, j, none⟩ = some v := fun j v hj => ((bcell hb).1 _ _ hz1).trans (k1.out j v hj)
  have r0 := k2 0 _ rfl
  have r1 := k2 1 _ rfl
  have r2 := k2 2 _ rfl
  have r3 := k2 3 _ rfl
  have r4 := k2 4 _ rfl
  have k2 := Lib.hid k2
  have hz2 : w1.heap.size ≤ w2.heap.size := hb.size
  have hz3 : w.heap.size < w2.heap.size := by omega
  have hb2 : Aside0 (Below w.heap.size w w2) := ⟨below_then hb1.out hb1.out.size hb⟩
  clear hb
  have hb3 : ∀ w3, Below (w2.alloc (Obj.cells #[.string C, .string D, .int .i64 g, .int .i64 e, .int .i64 f] 23)).heap.size (w2.alloc (Obj.cells #[.string C, .string D, .int .i64 g, .int .i64 e, .int .i64 f] 23)) w3 → Below w.heap.size w w3 := fun w3 h => below_then (below_alloc hb2.out _) (by simp; omega) h
  have hb3 := Lib.hid hb3
  rcases hat with hat | hat | rfl
  all_goals
    go_wp2_with fail
    try omega
  all_goals try
    (with_reducible refine (awake _).mono ?_)
    rintro e3 w3 ⟨rfl, hb⟩
    have hb4 : Aside0 (Below w.heap.size w w3) := ⟨hb3.out _ hb⟩
    clear hb
    go_wp2
    go_ret
    exact ⟨rfl, hb4.out⟩
  all_goals trace_state
  all_goals sorry
end Go.Proofs.Ytbalpmpaccfpiaa.WalkBack
