/- The program's machine: fetch. -/
import Derived.Test.YtbhkfdjofopfkaaMaB
namespace Go.Proofs.Ytbhkfdjofopfkaa.MemA
open Go.RowKit Go.Proofs.YtbhkfdjofopfkaaW.PrintWords Go.Proofs.YtbhkfdjofopfkaaW.PrintLast
set_option linter.unusedVariables false
set_option linter.unusedSimpArgs false
abbrev insV (op d a b i : Int) : Value := .agg #[.int .i64 op, .int .i64 d, .int .i64 a, .int .i64 b, .int .i32 i]
/-- A place where no instruction is. -/
def offB (n : Nat) (pc : Int) : Bool := decide (pc < 0) || decide ((n : Int) ≤ pc) || decide (pc % 4 ≠ 0)
set_option maxHeartbeats 4000000 in
set_option maxRecDepth 100000 in
theorem fetch_no {w : World} {base g gm h : Nat} {v : Value} {s : Mc} (m : Aside0 (MW w base g gm h v s)) (ho : offB s.code.size s.pc = true) :
    Calls Try.prog 32 #[PM g] w fun e w' => e = .returned (.tuple #[insV 0 0 0 0 0, .bool false]) ∧ Below w.heap.size w w' := by
  have hu67 := Try.underlying67
  have c0 : w.cell? ⟨g, 0, none⟩ = some (.string s.code) := (m.out.c_hd 0 (by omega)).trans rfl
  have c22 : w.cell? ⟨g, 22, none⟩ = some (.int .i64 s.pc) := (m.out.c_tl 0).trans rfl
  have hg : g < w.heap.size := by
    have := m.out.blk
    rcases Nat.lt_or_ge g w.heap.size with q | q
    · exact q
    · rw [Array.getElem?_eq_none (by simpa using q)] at this; simp at this
  have hp := m.out.ok.p0
  have hc := m.out.ok.cl
  generalize s.code = c at *
  generalize s.pc = p at *
  clear m
  by_cases q0 : p < 0
  · clear ho
    go_enter Try.func32, Try.ntmps32
    go_wp2_with fail
    exact bodyPost_ret (results_ct rfl _ _ w.heap.size 67 #[.int .i64 0, .int .i64 0, .int .i64 0, .int .i64 0, .int .i32 0] (0, 0) _ rfl (blk_new w _) Try.underlying67 rfl (by kernel_rfl)) rfl ⟨rfl, below_alloc (Below.refl _ _) _⟩
  · by_cases q1 : (c.size : Int) ≤ p
    · clear ho
      go_enter Try.func32, Try.ntmps32
      go_wp2_with fail
      exact bodyPost_ret (results_ct rfl _ _ w.heap.size 67 #[.int .i64 0, .int .i64 0, .int .i64 0, .int .i64 0, .int .i32 0] (0, 0) _ rfl (blk_new w _) Try.underlying67 rfl (by kernel_rfl)) rfl ⟨rfl, below_alloc (Below.refl _ _) _⟩
    · have q2 : p % 4 ≠ 0 := by
        intro q2
        simp [offB, q0, q2] at ho
        omega
      clear ho
      go_enter Try.func32, Try.ntmps32
      go_wp2_with fail
      exact bodyPost_ret (results_ct rfl _ _ w.heap.size 67 #[.int .i64 0, .int .i64 0, .int .i64 0, .int .i64 0, .int .i32 0] (0, 0) _ rfl (blk_new w _) Try.underlying67 rfl (by kernel_rfl)) rfl ⟨rfl, below_alloc (Below.refl _ _) _⟩
end Go.Proofs.Ytbhkfdjofopfkaa.MemA
