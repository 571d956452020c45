/- Programs as they come in. -/
import Derived.Test.YtobikiffjanagaaIrQ
import Derived.Test.YtobikiffjanagaaOpnF
namespace Go.Proofs.Ytobikiffjanagaa.IrA
open Go.RowKit Go.Proofs.YtobikiffjanagaaW.PrintWords Go.Proofs.YtobikiffjanagaaW.PrintLast Go.Proofs.YtobikiffjanagaaW.PrintMore Go.Proofs.Ytobikiffjanagaa.GF
set_option linter.unusedVariables false
set_option linter.unusedSimpArgs false

structure S25 where
  f0 : List S33
  f1 : Int
  f2 : List S51
  f3 : Int
def k25 : Kd S25 := Kd.iso (Kd.pair (Kd.slice 33 k33) (Kd.pair (Kd.int .i64) (Kd.pair (Kd.slice 51 k51) (Kd.int .i64)))) (fun x : S25 => (x.f0, x.f1, x.f2, x.f3))
theorem k25_open {w : World} {x : S25} {cs : List Value} (h : k25.K w x cs) : ∃ A0 c0 A2 c2, cs = [.slice A0 x.f0.length c0, .int .i64 x.f1, .slice A2 x.f2.length c2, .int .i64 x.f3] ∧ k33.C w A0 x.f0.length x.f0 ∧ k51.C w A2 x.f2.length x.f2 := by
  obtain ⟨_, _, rfl, ⟨A0, c0, rfl, l0, g0⟩, ⟨_, _, rfl, rfl, ⟨_, _, rfl, ⟨A2, c2, rfl, l2, g2⟩, rfl⟩⟩⟩ := h
  exact ⟨A0, c0, A2, c2, rfl, g0, g2⟩
def g25 (x : S25) : Prop := (x.f0.length * 64 ≤ 140737488351232 ∧ ∀ y ∈ x.f0, OpnF.g33 y) ∧ Opn.InK .i64 x.f1 ∧ (x.f2.length * 24 ≤ 140737488351232 ∧ ∀ y ∈ x.f2, OpnF.g51 y) ∧ Opn.InK .i64 x.f3
theorem o25 : Opn.Opn Try.prog 25 k25 g25 := Opn.imp (Opn.struct (fun x : S25 => (x.f0, x.f1, x.f2, x.f3)) (fun p => ⟨p.1, p.2.1, p.2.2.1, p.2.2.2⟩) (fun _ => rfl) Try.underlying25 (by kernel_rfl) (Opn.more rfl (by kernel_rfl) (Opn.slice 64 (by kernel_rfl) (by kernel_rfl) (by kernel_rfl) OpnF.o33) (by decide) (Opn.more rfl (by kernel_rfl) (Opn.int (by kernel_rfl)) (by decide) (Opn.more rfl (by kernel_rfl) (Opn.slice 24 (by kernel_rfl) (by kernel_rfl) (by kernel_rfl) OpnF.o51) (by decide) (Opn.last rfl (by kernel_rfl) (Opn.int (by kernel_rfl))))))) (fun a h => h)
theorem g58_gd {b : S58} (h : OpnF.g58 b) : gd58 b := by
  obtain ⟨⟨h1, h2⟩, _⟩ := h
  exact ⟨by omega, fun x hx => Opn.i32 (h2 x hx).2.2.2.1⟩
theorem g33_gd {f : S33} (h : OpnF.g33 f) : gd33 f := fun b hb => g58_gd (h.2.2.2.2.2 b hb)
theorem g25_gd {p : S25} (h : g25 p) : ∀ f ∈ p.f0, gd33 f := fun f hf => g33_gd (h.1.2 f hf)
end Go.Proofs.Ytobikiffjanagaa.IrA
