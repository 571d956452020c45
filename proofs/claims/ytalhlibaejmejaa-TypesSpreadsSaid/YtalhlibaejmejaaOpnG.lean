/- What came in as an argument, struct by struct (printed by wip/opngen.py). -/
import Derived.Test.YtalhlibaejmejaaGx0
import Derived.Test.YtalhlibaejmejaaOpn
namespace Go.Proofs.Ytalhlibaejmejaa.OpnG
open Go.RowKit Go.Proofs.Ytalhlibaejmejaa.Opn Go.Proofs.Ytalhlibaejmejaa.G Go.Proofs.YtalhlibaejmejaaW.PrintWords
set_option linter.unusedVariables false
def g33 (x : S33) : Prop := InK .i64 x.f0 ∧ InK .i64 x.f1 ∧ InK .i64 x.f2 ∧ InK .i64 x.f3
theorem o33 : Opn Try.prog 33 k33 g33 := imp (struct (fun x : S33 => (x.f0, x.f1, x.f2, x.f3)) (fun p => ⟨p.1, p.2.1, p.2.2.1, p.2.2.2⟩) (fun _ => rfl) Try.underlying33 (by kernel_rfl) (more rfl (by kernel_rfl) (int (by kernel_rfl)) (by decide) (more rfl (by kernel_rfl) (int (by kernel_rfl)) (by decide) (more rfl (by kernel_rfl) (int (by kernel_rfl)) (by decide) (last rfl (by kernel_rfl) (int (by kernel_rfl))))))) (fun a h => h)
def g35 (x : S35) : Prop := x.f0.size ≤ 140737488351232 ∧ g33 x.f1 ∧ InK .i64 x.f2
theorem o35 : Opn Try.prog 35 k35 g35 := imp (struct (fun x : S35 => (x.f0, x.f1, x.f2)) (fun p => ⟨p.1, p.2.1, p.2.2⟩) (fun _ => rfl) Try.underlying35 (by kernel_rfl) (more rfl (by kernel_rfl) (string (by kernel_rfl)) (by decide) (more rfl (by kernel_rfl) o33 (by decide) (last rfl (by kernel_rfl) (int (by kernel_rfl)))))) (fun a h => h)
def g24 (x : S24) : Prop := x.f0.size ≤ 140737488351232 ∧ (x.f1.length * 56 ≤ 140737488351232 ∧ ∀ y ∈ x.f1, g35 y) ∧ InK .i64 x.f2
theorem o24 : Opn Try.prog 24 k24 g24 := imp (struct (fun x : S24 => (x.f0, x.f1, x.f2)) (fun p => ⟨p.1, p.2.1, p.2.2⟩) (fun _ => rfl) Try.underlying24 (by kernel_rfl) (more rfl (by kernel_rfl) (string (by kernel_rfl)) (by decide) (more rfl (by kernel_rfl) (slice 56 (by kernel_rfl) (by kernel_rfl) (by kernel_rfl) o35) (by decide) (last rfl (by kernel_rfl) (int (by kernel_rfl)))))) (fun a h => h)
def g49 (x : S49) : Prop := x.f0.size ≤ 140737488351232 ∧ g33 x.f1 ∧ InK .i64 x.f2
theorem o49 : Opn Try.prog 49 k49 g49 := imp (struct (fun x : S49 => (x.f0, x.f1, x.f2)) (fun p => ⟨p.1, p.2.1, p.2.2⟩) (fun _ => rfl) Try.underlying49 (by kernel_rfl) (more rfl (by kernel_rfl) (string (by kernel_rfl)) (by decide) (more rfl (by kernel_rfl) o33 (by decide) (last rfl (by kernel_rfl) (int (by kernel_rfl)))))) (fun a h => h)
end Go.Proofs.Ytalhlibaejmejaa.OpnG
