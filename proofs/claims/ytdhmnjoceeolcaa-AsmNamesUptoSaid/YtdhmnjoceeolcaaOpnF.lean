/- What came in as an argument, struct by struct (printed by wip/opngen.py). -/
import Derived.Test.YtdhmnjoceeolcaaGFx0
import Derived.Test.YtdhmnjoceeolcaaOpnU
namespace Go.Proofs.Ytdhmnjoceeolcaa.OpnF
open Go.RowKit Go.Proofs.Ytdhmnjoceeolcaa.Opn Go.Proofs.Ytdhmnjoceeolcaa.GF Go.Proofs.YtdhmnjoceeolcaaW.PrintWords
set_option linter.unusedVariables false
def g24 (x : S24) : Prop := InK .i64 x.f0 ∧ InK .i64 x.f1 ∧ InK .i64 x.f2 ∧ InK .i64 x.f3 ∧ InK .i32 x.f4
theorem o24 : Opn Try.prog 24 k24 g24 := imp (struct (fun x : S24 => (x.f0, x.f1, x.f2, x.f3, x.f4)) (fun p => ⟨p.1, p.2.1, p.2.2.1, p.2.2.2.1, p.2.2.2.2⟩) (fun _ => rfl) Try.underlying24 (by kernel_rfl) (more rfl (by kernel_rfl) (int (by kernel_rfl)) (by decide) (more rfl (by kernel_rfl) (int (by kernel_rfl)) (by decide) (more rfl (by kernel_rfl) (int (by kernel_rfl)) (by decide) (more rfl (by kernel_rfl) (int (by kernel_rfl)) (by decide) (last rfl (by kernel_rfl) (int (by kernel_rfl)))))))) (fun a h => h)
def g37 (x : S37) : Prop := InK .i64 x.f0 ∧ g24 x.f1 ∧ InK .i64 x.f2
theorem o37 : Opn Try.prog 37 k37 g37 := imp (struct (fun x : S37 => (x.f0, x.f1, x.f2)) (fun p => ⟨p.1, p.2.1, p.2.2⟩) (fun _ => rfl) Try.underlying37 (by kernel_rfl) (more rfl (by kernel_rfl) (int (by kernel_rfl)) (by decide) (more rfl (by kernel_rfl) o24 (by decide) (last rfl (by kernel_rfl) (int (by kernel_rfl)))))) (fun a h => h)
structure S26 where
  f0 : List S37
  f1 : S24
  f2 : Int
  f3 : List S37
def k26 : Kd S26 := Kd.iso (Kd.pair (Kd.slice 37 k37) (Kd.pair k24 (Kd.pair (Kd.int .i64) (Kd.slice 37 k37)))) (fun x : S26 => (x.f0, x.f1, x.f2, x.f3))
theorem k26_open {w : World} {x : S26} {cs : List Value} (h : k26.K w x cs) : ∃ A0 c0 A3 c3, cs = [.slice A0 x.f0.length c0, .int .i64 x.f1.f0, .int .i64 x.f1.f1, .int .i64 x.f1.f2, .int .i64 x.f1.f3, .int .i32 x.f1.f4, .int .i64 x.f2, .slice A3 x.f3.length c3] ∧ x.f0.length ≤ c0 ∧ k37.C w A0 x.f0.length x.f0 ∧ x.f3.length ≤ c3 ∧ k37.C w A3 x.f3.length x.f3 := by
  obtain ⟨_, _, rfl, ⟨A0, c0, rfl, l0, g0⟩, ⟨_, _, rfl, s1, ⟨_, _, rfl, rfl, ⟨A3, c3, rfl, l3, g3⟩⟩⟩⟩ := h
  obtain rfl := k24_open s1
  exact ⟨A0, c0, A3, c3, rfl, l0, g0, l3, g3⟩
def g26 (x : S26) : Prop := (x.f0.length * 56 ≤ 1073741824 ∧ ∀ y ∈ x.f0, g37 y) ∧ g24 x.f1 ∧ InK .i64 x.f2 ∧ (x.f3.length * 56 ≤ 1073741824 ∧ ∀ y ∈ x.f3, g37 y)
theorem o26 : Opn Try.prog 26 k26 g26 := imp (struct (fun x : S26 => (x.f0, x.f1, x.f2, x.f3)) (fun p => ⟨p.1, p.2.1, p.2.2.1, p.2.2.2⟩) (fun _ => rfl) Try.underlying26 (by kernel_rfl) (more rfl (by kernel_rfl) (slice 56 (by kernel_rfl) (by kernel_rfl) (by kernel_rfl) o37) (by decide) (more rfl (by kernel_rfl) o24 (by decide) (more rfl (by kernel_rfl) (int (by kernel_rfl)) (by decide) (last rfl (by kernel_rfl) (slice 56 (by kernel_rfl) (by kernel_rfl) (by kernel_rfl) o37)))))) (fun a h => h)
end Go.Proofs.Ytdhmnjoceeolcaa.OpnF
