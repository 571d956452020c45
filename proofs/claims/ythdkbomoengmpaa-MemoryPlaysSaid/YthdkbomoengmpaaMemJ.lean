/- The three laws over whatever may come in. -/
import Derived.Test.YthdkbomoengmpaaMemH
import Derived.Test.YthdkbomoengmpaaMemI
namespace Go.Proofs.Ythdkbomoengmpaa.MemA
open Go.ChangeShapes Go.WideShapes Go.ChangeAt Go.RowKit Go.Proofs.YthdkbomoengmpaaW.PrintWords
set_option linter.unusedVariables false
set_option linter.unusedSimpArgs false

theorem plays (n : Int) (A : Option Addr) (c : Nat) (l : List A44) (W : World) (hr : k44.C W A l.length l) (hg : ∀ x ∈ l, g44 x) :
    Calls Try.prog 3 #[.int .i64 n, .slice A l.length c] W fun e w' => e = .returned (.bool true) ∧ Below W.heap.size W w' := by
  by_cases h : n < 1 ∨ 262144 < n
  · exact plays_no A c l h
  · obtain ⟨k, rfl⟩ := Int.eq_ofNat_of_zero_le (a := n) (by omega)
    exact plays_yes c (by omega) (by omega) ⟨hr⟩ ⟨hg⟩
theorem loads (n : Int) (A : Option Addr) (c : Nat) (l : List A44) (p q : Int) (W : World) (hr : k44.C W A l.length l) (hg : ∀ x ∈ l, g44 x) (hq : Opn.InK .i64 q) :
    Calls Try.prog 4 #[.int .i64 n, .slice A l.length c, .agg #[.int .i64 p, .int .i64 q]] W fun e w' => e = .returned (.bool true) ∧ Below W.heap.size W w' := by
  have hq := Opn.i64 hq
  by_cases h : n < 1 ∨ 262144 < n
  · exact loads_no A c l p q h
  · obtain ⟨k, rfl⟩ := Int.eq_ofNat_of_zero_le (a := n) (by omega)
    exact loads_yes c p q (p % 4294967296).toNat (by omega) (by omega) hq.1 hq.2 (by omega) (by omega) ⟨hr⟩ ⟨hg⟩
theorem nobody_all (x : A44) (W : World) (g : g44 x) :
    Calls Try.prog 5 #[.agg ⟨[.int .i64 x.d, .int .u32 x.a, .int .u32 x.x, .string x.s]⟩] W fun e w' => e = .returned (.bool true) ∧ Below W.heap.size W w' := by
  obtain ⟨_, h1, h2, h3⟩ := g
  have h1 := Opn.u32 h1
  have h2 := Opn.u32 h2
  obtain ⟨a, ha⟩ := Int.eq_ofNat_of_zero_le h1.1
  rw [ha] at h1 ⊢
  exact nobody x.d x.x a x.s (by omega) h2.1 h2.2 h3
theorem o22 : Opn.Opn Try.prog 22 (Kd.slice 44 k44) (fun l => l.length * 32 ≤ 140737488351232 ∧ ∀ x ∈ l, g44 x) := Opn.slice 32 Try.underlying22 (by kernel_rfl) (by kernel_rfl) o44
/-- Two numbers. -/
theorem two {H : Type} {enc : TypeId × Value → H} {w : World} {base : Nat} {spare : Nat → Bool} {held : Bool} {r : Reach} {b0 : Nat} {v : Value} {d : DataW H} {p : List MemPlace}
    (hv : Value.okWide Try.prog w r b0 37 v) (h : DataW.Trod enc Try.prog w base spare held 37 v d p) :
    ∃ x y : Int, v = .agg #[.int .i64 x, .int .i64 y] ∧ Opn.InK .i64 y := by
  have hv' : ∃ cs : Array Value, v = .agg cs ∧ cs.size = Try.prog.cellsOf 37 := by
    unfold Value.okWide at hv
    rw [Try.underlying37] at hv
    obtain ⟨cs, h1, h2, _⟩ := hv
    exact ⟨cs, h1, h2⟩
  obtain ⟨⟨cs⟩, rfl, hsz⟩ := hv'
  obtain ⟨fuel, hf⟩ := h
  obtain ⟨xs, m, _, _, hl, hn, hi⟩ := DataW.trod_array Try.underlying37 hf
  have hc : Try.prog.cellsOf 37 = 2 := by kernel_rfl
  have hc3 : Try.prog.cellsOf 3 = 1 := by kernel_rfl
  rw [hc] at hsz
  match cs, hsz with
  | [a, b], _ =>
    match xs, hn with
    | [x, y], _ =>
      have h0 := hi 0 (by omega)
      have h1 := hi 1 (by omega)
      rw [hc3] at h0 h1
      obtain ⟨n0, e0, _, w0⟩ := DataW.trod_int Try.underlying3 h0
      obtain ⟨n1, e1, _, w1⟩ := DataW.trod_int Try.underlying3 h1
      have e0 : [a] = [.int .i64 n0] := e0
      have e1 : [b] = [.int .i64 n1] := e1
      cases e0
      cases e1
      exact ⟨n0, n1, rfl, w1⟩
end Go.Proofs.Ythdkbomoengmpaa.MemA
