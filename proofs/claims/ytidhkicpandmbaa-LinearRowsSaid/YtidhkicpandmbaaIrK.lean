/- What both ask of an instruction is the same. -/
import Derived.Test.YtidhkicpandmbaaIrJ
namespace Go.Proofs.Ytidhkicpandmbaa.IrA
open Go.RowKit Go.Proofs.YtidhkicpandmbaaW.PrintWords Go.Proofs.YtidhkicpandmbaaW.PrintLast Go.Proofs.YtidhkicpandmbaaW.PrintMore Go.Proofs.Ytidhkicpandmbaa.GF
set_option linter.unusedVariables false
set_option linter.unusedSimpArgs false

theorem alu3 (f4 : Int) : (!(true != wi f4 1 19 || (!true && f4 != 0))) = !((true && (decide (f4 < 1) || decide (19 < f4))) || (false && f4 != 0)) := by
  rw [Bool.eq_iff_iff]; simp [wi]
theorem aluN (f4 : Int) : (!(false != wi f4 1 19 || (!false && f4 != 0))) = !((false && (decide (f4 < 1) || decide (19 < f4))) || (true && f4 != 0)) := by
  rw [Bool.eq_iff_iff]; simp [wi]
  intro h; omega
/-- An instruction as the reference sees it, behind others. -/
def okR (re : Int) (fs : List S28) (glob sl : Int) (ps : List (List Int)) (blk : Nat) (l : List S64) (q : Nat) : Bool :=
  rinB re fs glob sl (l.getD q z64) && !((l.getD q z64).f0 == 12 && (!ahead l q || (!((l.getD q z64).f6 == ps.getD blk []) || (l.getD q z64).f2.length != (l.getD q z64).f6.length)))
theorem isB_rinB (re : Int) (fs : List S28) (glob sl : Int) (pr : List Int) (ps : List (List Int)) (blk : Nat) (hp : ps.getD blk [] = pr) (x : S64) (a : Bool) :
    (isB re fs glob sl ps blk x (pt x.f0) && !(x.f0 == 12 && !a)) = (rinB re fs glob sl x && !(x.f0 == 12 && (!a || (!(x.f6 == pr) || x.f2.length != x.f6.length)))) := by
  obtain ⟨op, f1, f2, f3, f4, f5, f6⟩ := x
  simp only [isB, rinB, argR, dstR, aluR, wideR, wdR, predR, dstB, hp]
  by_cases h : op = 1 ∨ op = 2 ∨ op = 3 ∨ op = 4 ∨ op = 5 ∨ op = 6 ∨ op = 7 ∨ op = 8 ∨ op = 9 ∨ op = 10 ∨ op = 11 ∨ op = 12
  · generalize hall : (f2.all fun r => wi r 0 (re - 1)) = al
    generalize hw : wi f1 0 (re - 1) = w1
    generalize hm : (f1 == -1) = m1
    have hm2 : (f1 != -1) = !m1 := by rw [← hm]; rfl
    generalize hx : (f6 == pr) = e6
    have hl6 : decide (0 < f6.length) = !(f6.length == 0) := by cases f6 <;> simp
    have h34 := alu3 f4
    have h3n := aluN f4
    rcases h with rfl | rfl | rfl | rfl | rfl | rfl | rfl | rfl | rfl | rfl | rfl | rfl
    all_goals
      simp [pt, rdn, hm2, hl6]
      try unfold wi
      try grind
  · rw [pt_no op h]
    rfl
end Go.Proofs.Ytidhkicpandmbaa.IrA
