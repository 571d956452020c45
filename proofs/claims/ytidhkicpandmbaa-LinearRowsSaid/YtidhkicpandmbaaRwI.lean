/- Is the program awake. -/
import Derived.Test.YtidhkicpandmbaaRwH
namespace Go.Proofs.Ytidhkicpandmbaa.RwB
open Go.RowKit Go.Shelf Go.Proofs.YtidhkicpandmbaaW.PrintWords Go.Proofs.YtidhkicpandmbaaW.PrintLast Go.Proofs.YtidhkicpandmbaaW.PrintMore Go.Proofs.Ytidhkicpandmbaa.GF Go.Proofs.Ytidhkicpandmbaa.IrA Go.Proofs.Ytidhkicpandmbaa.RwA Go.Proofs.Ytidhkicpandmbaa.RwB Go.Proofs.Ytidhkicpandmbaa.RwC
set_option linter.unusedVariables false
set_option linter.unusedSimpArgs false
theorem C_two {α : Type} {k : Kd α} {w : World} {g : Nat} {p1 p2 : α} {c1 c2 : List Value} (hl1 : c1.length = k.sz) (hl2 : c2.length = k.sz) (hK1 : k.K w p1 c1) (hK2 : k.K w p2 c2) (hc1 : ∀ q u, c1[q]? = some u → w.cell? ⟨g, q, none⟩ = some u) (hc2 : ∀ q u, c2[q]? = some u → w.cell? ⟨g, k.sz + q, none⟩ = some u) : Kd.C k w (some ⟨g, 0, none⟩) 2 [p1, p2] := by
  refine ⟨rfl, by omega, fun _ => ⟨⟨g, 0, none⟩, rfl, fun i x hx => ?_⟩⟩
  match i, hx with
  | 0, hx =>
    have : p1 = x := by simpa using hx
    subst this
    refine ⟨c1, hl1, hK1, fun q u hq => ?_⟩
    rw [add_plain, show 0 * k.sz + q = q by omega]
    exact hc1 q u hq
  | 1, hx =>
    have : p2 = x := by simpa using hx
    subst this
    refine ⟨c2, hl2, hK2, fun q u hq => ?_⟩
    rw [add_plain, show 1 * k.sz + q = k.sz + q by omega]
    exact hc2 q u hq
theorem C_one {α : Type} {k : Kd α} {w : World} {g : Nat} {p : α} {c : List Value} (hl : c.length = k.sz) (hK : k.K w p c) (hc : ∀ q u, c[q]? = some u → w.cell? ⟨g, q, none⟩ = some u) : Kd.C k w (some ⟨g, 0, none⟩) 1 [p] := by
  refine ⟨rfl, by omega, fun _ => ⟨⟨g, 0, none⟩, rfl, fun i x hx => ?_⟩⟩
  have h0 : i = 0 := by
    have := (List.getElem?_eq_some_iff.1 hx).1
    simpa using this
  subst h0
  have : p = x := by simpa using hx
  subst this
  refine ⟨c, hl, hK, fun q u hq => ?_⟩
  rw [add_plain]
  have e : 0 * k.sz + q = q := by omega
  rw [e]
  exact hc q u hq
def a1 : S39 := ⟨[], 1, 0, [1]⟩
def a2 : S39 := ⟨[], 3, -1, []⟩
theorem reached_two : reached [a1, a2] = [true, true] := by rfl
theorem two_of {l : List Int} (hN : l.Nodup) (hm : ∀ y : Int, y ∈ l ↔ 0 ≤ y ∧ y < 2) (h0 : l.getD 0 0 = 0) : l = [0, 1] := by
  have h1 : (1 : Int) ∈ l := (hm 1).2 (by omega)
  have hz : (0 : Int) ∈ l := (hm 0).2 (by omega)
  have hp := pigeon 2 l hN (fun x hx => by have := (hm x).1 hx; omega)
  match l, h0, h1, hz, hp, hN with
  | [], _, h, _, _, _ => simp at h
  | [x], h0, h1, _, _, _ => simp at h0 h1; omega
  | [x, y], h0, h1, _, _, hN => simp at h0 h1; subst h0; simp at h1; rw [h1]
  | _ :: _ :: _ :: _, _, _, _, hp, _ => simp at hp
theorem row_two {g : G} (h : RowIs 2 (ToB [a1, a2]) (EnB [a1, a2]) (reached [a1, a2]) g.a g.b g.hd g.ix g.ln) : outTo (reached [a1, a2]) g.a g.b g.ln 2 = [0, 1] := by
  have hc : ∀ x, x < 2 → (reached [a1, a2]).getD x false = true → ∀ t ∈ ToB [a1, a2] x, 0 ≤ t ∧ t < ((2 : Nat) : Int) ∧ (reached [a1, a2]).getD t.toNat false = true := by
    intro x hx _ t ht
    match x, hx, ht with
    | 0, _, ht => simp [ToB, a1] at ht; subst ht; exact ⟨by omega, by omega, rfl⟩
    | 1, _, ht => simp [ToB, a2] at ht
  refine two_of (h.co.out_nodup _ 2 (Nat.le_refl _)) (fun y => ?_) (h.first hc rfl (by omega)).1
  rw [h.mem hc]
  constructor
  · rintro ⟨h1, h2, _⟩; exact ⟨h1, h2⟩
  · rintro ⟨h1, h2⟩
    refine ⟨h1, h2, ?_⟩
    rw [reached_two]
    obtain ⟨k, rfl⟩ := Int.eq_ofNat_of_zero_le h1
    match k, h2 with
    | 0, _ => rfl
    | 1, _ => rfl
set_option maxHeartbeats 8000000 in
set_option maxRecDepth 100000 in
theorem awake (w : World) : Calls Try.prog 11 #[] w (RetB (.bool true) w) := by
  go_enter Try.func11, Try.ntmps11
  go_wp2_with fail
  have e0 := blk_new w (.cells #[.int .i64 1] 3)
  generalize hW1 : w.alloc (.cells #[.int .i64 1] 3) = W1 at *
  have s1 : W1.heap.size = w.heap.size + 1 := by rw [← hW1]; simp
  have e1 := blk_new W1 (.cells #[.slice none 0 0, .int .i64 1, .int .i64 0, .slice (some ⟨w.heap.size, 0, none⟩) 1 1, .slice none 0 0, .int .i64 3, .int .i64 (-1), .slice none 0 0] 39)
  generalize hW2 : W1.alloc (.cells #[.slice none 0 0, .int .i64 1, .int .i64 0, .slice (some ⟨w.heap.size, 0, none⟩) 1 1, .slice none 0 0, .int .i64 3, .int .i64 (-1), .slice none 0 0] 39) = W2 at *
  have s2 : W2.heap.size = w.heap.size + 1 + 1 := by rw [← hW2]; simp [s1]
  rw [s1] at e1
  have e2 := blk_new W2 (fb ⟨#[]⟩ 0 0 0 (some ⟨w.heap.size + 1, 0, none⟩) 2 2)
  rw [s2] at e2
  have k1 := blk_alloc e1 (fb ⟨#[]⟩ 0 0 0 (some ⟨w.heap.size + 1, 0, none⟩) 2 2)
  have k0 : (W2.alloc (fb ⟨#[]⟩ 0 0 0 (some ⟨w.heap.size + 1, 0, none⟩) 2 2)).heap[w.heap.size]? = some (.cells #[.int .i64 1] 3 (0, 0)) := by
    rw [← hW2]
    exact blk_alloc (blk_alloc e0 _) _
  have hB : Below w.heap.size w (W2.alloc (fb ⟨#[]⟩ 0 0 0 (some ⟨w.heap.size + 1, 0, none⟩) 2 2)) := by
    rw [← hW2, ← hW1]
    exact below_alloc (below_alloc (below_alloc (Below.refl _ _) _) _) _
  have cI : Kd.C (Kd.int .i64) (W2.alloc (fb ⟨#[]⟩ 0 0 0 (some ⟨w.heap.size + 1, 0, none⟩) 2 2)) (some ⟨w.heap.size, 0, none⟩) 1 [1] :=
    C_one (c := [.int .i64 1]) rfl rfl (fun q u hq => by rw [blk_cell k0 q]; simpa using hq)
  have cB : Kd.C k39 (W2.alloc (fb ⟨#[]⟩ 0 0 0 (some ⟨w.heap.size + 1, 0, none⟩) 2 2)) (some ⟨w.heap.size + 1, 0, none⟩) 2 [a1, a2] :=
    C_two (c1 := [.slice none 0 0, .int .i64 1, .int .i64 0, .slice (some ⟨w.heap.size, 0, none⟩) 1 1]) (c2 := [.slice none 0 0, .int .i64 3, .int .i64 (-1), .slice none 0 0]) rfl rfl
      (k39_mk _ a1 (Nat.le_refl _) (Kd.C_nil _ _) (Nat.le_refl _) cI) (k39_mk _ a2 (Nat.le_refl _) (Kd.C_nil _ _) (Nat.le_refl _) (Kd.C_nil _ _))
      (fun q u hq => by
        rw [blk_cell k1 q]
        match q, hq with
        | 0, hq => exact hq
        | 1, hq => exact hq
        | 2, hq => exact hq
        | 3, hq => exact hq
        | q + 4, hq => simp at hq)
      (fun q u hq => by
        rw [blk_cell k1 _]
        match q, hq with
        | 0, hq => exact hq
        | 1, hq => exact hq
        | 2, hq => exact hq
        | 3, hq => exact hq
        | q + 4, hq => simp at hq)
  replace cB := Aside0.mk cB
  replace hB := Aside0.mk hB
  replace e2 := Aside0.mk e2
  clear cI k0 k1 e0 e1 hW1 hW2
  generalize W2.alloc (Obj.cells #[Value.string ⟨#[]⟩, Value.int IntKind.i64 0, Value.int IntKind.i64 0, Value.int IntKind.i64 0, Value.slice (some ⟨w.heap.size + 1, 0, none⟩) 2 2] 28) = W3 at *
  clear s1 s2
  have hW8 : Aside0 (Calls Try.prog 8 #[fv ⟨#[]⟩ 0 0 0 (some ⟨w.heap.size + 1, 0, none⟩) 2 2] W3 (RowPost [a1, a2] W3)) := ⟨row_walk ⟨#[]⟩ 0 0 0 (some ⟨w.heap.size + 1, 0, none⟩) 2 [a1, a2] cB (by decide)⟩
  (with_reducible refine hW8.out.mono ?_)
  rintro e W4 ⟨v, g, rfl, hRI, hR, hB4⟩
  replace hR : Kd.R (Kd.int .i64) 3 W4 W3.heap.size (fun _ => True) v (outTo (reached [a1, a2]) g.a g.b g.ln 2) := hR
  rw [row_two hRI] at hR
  obtain ⟨g5, c5, ev, _⟩ := Kd.R_form hR (by decide)
  replace ev : v = .slice (some ⟨g5, 0, none⟩) 2 c5 := ev
  subst ev
  have cR := Aside0.mk (Kd.R_reads' hR).2.2
  have e4 := blk_below e2.out hB4
  have cB4 := Aside0.mk (Kd.C_below cB.out hB4)
  have hB5 := Aside0.mk (below_step hB.out hB4)
  obtain ⟨a5, e, r0⟩ := Kd.at_int cR.out 0 (by omega) (by decide)
  cases e
  have er : rd [0, 1] 0 = 0 := rfl
  rw [er, Int.toNat_zero, add_plain] at r0
  have y0 : W4.cell? ⟨w.heap.size + 1 + 1, 0, none⟩ = some (.string ⟨#[]⟩) := (blk_cell e4 0).trans rfl
  have y1 : W4.cell? ⟨w.heap.size + 1 + 1, 1, none⟩ = some (.int .i64 0) := (blk_cell e4 1).trans rfl
  have y2 : W4.cell? ⟨w.heap.size + 1 + 1, 2, none⟩ = some (.int .i64 0) := (blk_cell e4 2).trans rfl
  have y3 : W4.cell? ⟨w.heap.size + 1 + 1, 3, none⟩ = some (.int .i64 0) := (blk_cell e4 3).trans rfl
  have y4 : W4.cell? ⟨w.heap.size + 1 + 1, 4, none⟩ = some (.slice (some ⟨w.heap.size + 1, 0, none⟩) 2 2) := (blk_cell e4 4).trans rfl
  have hF : Aside0 (Calls Try.prog 15 #[fv ⟨#[]⟩ 0 0 0 (some ⟨w.heap.size + 1, 0, none⟩) 2 2, .slice (some ⟨g5, 0, none⟩) 2 c5] W4 (RetB (.int .i64 1) W4)) := ⟨fallsL ⟨#[]⟩ 0 0 0 (some ⟨w.heap.size + 1, 0, none⟩) (some ⟨g5, 0, none⟩) 2 c5 [a1, a2] [0, 1] cB4 cR (by decide)⟩
  clear hR hRI hB4 e4 er
  have el : (([0, 1] : List Int).length : Int) = 2 := rfl
  go_wp2_with ((with_reducible refine hF.out.mono ?_); rintro e W5 ⟨rfl, hB6⟩; have hB7 := Aside0.mk (below_step hB5.out hB6); clear hB6)
  go_ret
  exact ⟨rfl, hB7.out⟩
end Go.Proofs.Ytidhkicpandmbaa.RwB
