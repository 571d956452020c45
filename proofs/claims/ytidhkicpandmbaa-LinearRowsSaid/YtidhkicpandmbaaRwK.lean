/- What came in, for the laws of rows. -/
import Derived.Test.YtidhkicpandmbaaRwJ
import Derived.Test.YtidhkicpandmbaaOpnF
namespace Go.Proofs.Ytidhkicpandmbaa.RwB
open Go.RowKit Go.Proofs.YtidhkicpandmbaaW.PrintWords Go.Proofs.YtidhkicpandmbaaW.PrintLast Go.Proofs.YtidhkicpandmbaaW.PrintMore Go.Proofs.Ytidhkicpandmbaa.GF Go.Proofs.Ytidhkicpandmbaa.IrA
set_option linter.unusedVariables false
set_option linter.unusedSimpArgs false
set_option maxRecDepth 100000
structure S25 where
  f0 : List S28
  f1 : Int
  f2 : List S73
  f3 : Int
def k25 : Kd S25 := Kd.iso (Kd.pair (Kd.slice 28 k28) (Kd.pair (Kd.int .i64) (Kd.pair (Kd.slice 73 k73) (Kd.int .i64)))) (fun x : S25 => (x.f0, x.f1, x.f2, x.f3))
theorem k25_open {w : World} {x : S25} {cs : List Value} (h : k25.K w x cs) : ∃ A0 c0 A2 c2, cs = [.slice A0 x.f0.length c0, .int .i64 x.f1, .slice A2 x.f2.length c2, .int .i64 x.f3] ∧ k28.C w A0 x.f0.length x.f0 ∧ k73.C w A2 x.f2.length x.f2 := by
  obtain ⟨_, _, rfl, ⟨A0, c0, rfl, l0, g0⟩, ⟨_, _, rfl, rfl, ⟨_, _, rfl, ⟨A2, c2, rfl, l2, g2⟩, rfl⟩⟩⟩ := h
  exact ⟨A0, c0, A2, c2, rfl, g0, g2⟩
def g25 (x : S25) : Prop := (x.f0.length * 64 ≤ 140737488351232 ∧ ∀ y ∈ x.f0, OpnF.g28 y) ∧ Opn.InK .i64 x.f1 ∧ (x.f2.length * 24 ≤ 140737488351232 ∧ ∀ y ∈ x.f2, OpnF.g73 y) ∧ Opn.InK .i64 x.f3
theorem o25 : Opn.Opn Try.prog 25 k25 g25 := Opn.imp (Opn.struct (fun x : S25 => (x.f0, x.f1, x.f2, x.f3)) (fun p => ⟨p.1, p.2.1, p.2.2.1, p.2.2.2⟩) (fun _ => rfl) Try.underlying25 (by kernel_rfl) (Opn.more rfl (by kernel_rfl) (Opn.slice 64 (by kernel_rfl) (by kernel_rfl) (by kernel_rfl) OpnF.o28) (by decide) (Opn.more rfl (by kernel_rfl) (Opn.int (by kernel_rfl)) (by decide) (Opn.more rfl (by kernel_rfl) (Opn.slice 24 (by kernel_rfl) (by kernel_rfl) (by kernel_rfl) OpnF.o73) (by decide) (Opn.last rfl (by kernel_rfl) (Opn.int (by kernel_rfl))))))) (fun a h => h)
theorem o29 : Opn.Opn Try.prog 29 (Kd.slice 3 (Kd.int .i64)) (fun l => l.length * 8 ≤ 140737488351232 ∧ ∀ x ∈ l, Opn.InK .i64 x) := Opn.slice 8 Try.underlying29 (by kernel_rfl) (by kernel_rfl) (Opn.int (by kernel_rfl))
theorem g39_gd {b : S39} (h : OpnF.g39 b) : gd39 b := by
  obtain ⟨⟨h1, h2⟩, _⟩ := h
  exact ⟨by omega, fun x hx => Opn.i32 (h2 x hx).2.2.2.1⟩
theorem g28_gd {f : S28} (h : OpnF.g28 f) : ∀ b ∈ f.f4, gd39 b := fun b hb => g39_gd (h.2.2.2.2.2 b hb)
end Go.Proofs.Ytidhkicpandmbaa.RwB
