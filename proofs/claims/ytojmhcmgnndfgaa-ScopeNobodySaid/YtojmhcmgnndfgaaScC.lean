/- Scopes: the program's New, Depth, Enter. -/
import Derived.Test.YtojmhcmgnndfgaaScB
namespace Go.Proofs.Ytojmhcmgnndfgaa.Sc
open Go.RowKit Go.Proofs.YtojmhcmgnndfgaaW.PrintWords
set_option linter.unusedVariables false
set_option linter.unusedSimpArgs false

theorem info47 : (Try.prog.info? 47).map (fun i => (i.zero, i.size, i.bytes)) = some (some (.map none), 1, 8) := by kernel_rfl
theorem info52 : (Try.prog.info? 52).map (fun i => (i.zero, i.size, i.bytes)) = some (some (.agg #[.int .i64 0, .string ⟨#[]⟩, .int .i64 0]), 3, 32) := by kernel_rfl

def Dp (p : Value) (n : Nat) (w : World) : Prop := Calls Try.prog 9 #[p] w fun e w' => e = .returned (.int .i64 n) ∧ w = w'
theorem Dp.call {p : Value} {n : Nat} {w : World} (h : Dp p n w) : Calls Try.prog 9 #[p] w fun e w' => e = .returned (.int .i64 n) ∧ w = w' := h
set_option maxHeartbeats 4000000 in
set_option maxRecDepth 100000 in
theorem depth_slice {w : World} {g : Nat} {A : Option Addr} {n c : Nat} (hc : w.cell? ⟨g, 0, none⟩ = some (.slice A n c)) : Dp (.pointer (some ⟨g, 0, none⟩)) n w := by
  unfold Dp
  go_enter Try.func9, Try.ntmps9
  go_wp2
  go_ret
  exact ⟨rfl, rfl⟩
set_option maxHeartbeats 4000000 in
set_option maxRecDepth 100000 in
theorem depth_nil (w : World) : Dp (.pointer none) 0 w := by
  unfold Dp
  go_enter Try.func9, Try.ntmps9
  go_wp2
  go_ret
  exact ⟨rfl, rfl⟩
theorem depth {w : World} {B g : Nat} {v : Value} {ms : List Nat} {st : List Blk} (p : PS w B g v ms st) : Dp (.pointer (some ⟨g, 0, none⟩)) st.length w := by
  obtain ⟨A, c, rfl, _⟩ := own_slice p.row
  rw [← p.len]
  exact depth_slice ((blk_cell p.cell 0).trans rfl)

set_option maxHeartbeats 4000000 in
set_option maxRecDepth 100000 in
theorem new (w : World) : Calls Try.prog 6 #[] w fun e w' => ∃ g v ms, e = .returned (.pointer (some ⟨g, 0, none⟩)) ∧ PS w' w.heap.size g v ms [[]] ∧ Below w.heap.size w w' := by
  have hmm := @run_makeMap Try.prog
  go_enter Try.func6, Try.ntmps6
  go_wp2
  go_ret
  have b0 := blk_new w (.map #[] 0)
  have b1 := blk_new (w.alloc (.map #[] 0)) (.cells #[.map (some w.heap.size)] 47)
  have b2 := blk_new ((w.alloc (.map #[] 0)).alloc (.cells #[.map (some w.heap.size)] 47)) (.cells #[.slice (some ⟨w.heap.size + 1, 0, none⟩) 1 1] 44)
  simp only [World.size_alloc] at b1 b2
  refine ⟨w.heap.size + 1 + 1, _, [w.heap.size], by first | rfl | simp, ⟨b2, ⟨by simp [hnd], .inr ⟨_, _, _, rfl, by omega, blk_alloc b1 _, by simp, by simp [maxLen], by simp, by simp [hnd]⟩⟩, rfl, fun i hi => ?_, by simp, by omega, by simp⟩, below_alloc (below_alloc (below_alloc (Below.refl _ _) _) _) _⟩
  obtain rfl : i = 0 := by simpa using hi
  exact ⟨_, _, blk_alloc (blk_alloc b0 _) _, by simp⟩
end Go.Proofs.Ytojmhcmgnndfgaa.Sc
