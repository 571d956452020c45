/- Nodes and edges that came in as arguments. -/
import Derived.Test.YtfdhpogpeajifaaLaC
import Derived.Test.YtfdhpogpeajifaaOpn
namespace Go.Proofs.Ytfdhpogpeajifaa.Lat
open Go.RowKit Go.Proofs.Ytfdhpogpeajifaa.Opn Go.Proofs.YtfdhpogpeajifaaW.PrintWords
set_option linter.unusedVariables false
set_option linter.unusedSimpArgs false
theorem o44 : Opn Try.prog 44 kE (fun _ => True) := by
  intro H enc w base spare held fuel cs x h hw
  obtain ⟨xs, n, _, rfl, hl, hxl, hg⟩ := DataW.trod_array Try.underlying44 h
  have hl2 : cs.length = 2 := hl.trans (by kernel_rfl)
  have hc : Try.prog.cellsOf 3 = 1 := by kernel_rfl
  match cs, hl2 with
  | [c0, c1], _ =>
    match xs, hxl with
    | [y0, y1], _ =>
      have g0 := hg 0 (by omega)
      have g1 := hg 1 (by omega)
      simp [hc] at g0 g1
      have hwl : ∀ y ∈ [y0.1, y1.1], ∀ q ∈ DataW.weights Try.prog 3 y, q ≤ reachBytes := fun y hy q hq => hw q (by
        rw [DataW.weights, Try.underlying44]
        exact weights_all _ y (by simpa using hy) q hq)
      obtain ⟨a, ha, _⟩ := Opn.int Try.underlying3 enc w base spare held n [c0] y0 g0 (hwl _ (by simp))
      obtain ⟨b, hb, _⟩ := Opn.int Try.underlying3 enc w base spare held n [c1] y1 g1 (hwl _ (by simp))
      exact ⟨(a, b), ⟨[c0], [c1], rfl, ha, hb⟩, trivial⟩
def k43 : Kd (Int × Int × Int) := Kd.pair (Kd.int .u64) (Kd.pair (Kd.int .u64) (Kd.int .u64))
theorem iv_of {n : Int} (h : 0 ≤ n ∧ n ≤ 18446744073709551615) : iv (BitVec.ofNat 64 n.toNat) = n := by
  unfold iv
  rw [BitVec.toNat_ofNat]
  omega
theorem o43 : Opn Try.prog 43 kN (fun _ => True) := by
  have h0 : Opn Try.prog 43 (Kd.iso k43 (fun x : Int × Int × Int => x)) (fun p => InK .u64 p.1 ∧ InK .u64 p.2.1 ∧ InK .u64 p.2.2) :=
    struct (fun x => x) (fun x => x) (fun _ => rfl) Try.underlying43 (by kernel_rfl) (more rfl (by kernel_rfl) (Opn.int (by kernel_rfl)) (by decide) (more rfl (by kernel_rfl) (Opn.int (by kernel_rfl)) (by decide) (last rfl (by kernel_rfl) (Opn.int (by kernel_rfl)))))
  intro H enc w base spare held fuel cs x h hw
  obtain ⟨⟨a, b, c⟩, hk, h1, h2, h3⟩ := h0 enc w base spare held fuel cs x h hw
  refine ⟨⟨BitVec.ofNat 64 a.toNat, BitVec.ofNat 64 b.toNat, BitVec.ofNat 64 c.toNat⟩, ?_, trivial⟩
  show k43.K w (iv _, iv _, iv _) cs
  rw [iv_of (Opn.u64 h1), iv_of (Opn.u64 h2), iv_of (Opn.u64 h3)]
  exact hk
theorem o22 : Opn Try.prog 22 (Kd.slice 43 kN) (fun l => l.length * 24 ≤ 140737488351232 ∧ ∀ x ∈ l, True) := slice 24 Try.underlying22 (by kernel_rfl) (by kernel_rfl) o43
theorem o23 : Opn Try.prog 23 (Kd.slice 44 kE) (fun l => l.length * 16 ≤ 140737488351232 ∧ ∀ x ∈ l, True) := slice 16 Try.underlying23 (by kernel_rfl) (by kernel_rfl) o44
end Go.Proofs.Ytfdhpogpeajifaa.Lat
