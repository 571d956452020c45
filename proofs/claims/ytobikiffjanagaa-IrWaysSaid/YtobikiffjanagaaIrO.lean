/- Is the program awake. -/
import Derived.Test.YtobikiffjanagaaIrN
namespace Go.Proofs.Ytobikiffjanagaa.IrA
open Go.RowKit Go.Proofs.YtobikiffjanagaaW.PrintWords Go.Proofs.YtobikiffjanagaaW.PrintLast Go.Proofs.YtobikiffjanagaaW.PrintMore Go.Proofs.Ytobikiffjanagaa.GF
set_option linter.unusedVariables false
set_option linter.unusedSimpArgs false

theorem C_one {α : Type} {k : Kd α} {w : World} {g : Nat} {p : α} {c : List Value} (hl : c.length = k.sz) (hK : k.K w p c) (hc : ∀ q u, c[q]? = some u → w.cell? ⟨g, q, none⟩ = some u) : Kd.C k w (some ⟨g, 0, none⟩) 1 [p] := by
  refine ⟨rfl, by omega, fun _ => ⟨⟨g, 0, none⟩, rfl, fun i x hx => ?_⟩⟩
  have h0 : i = 0 := by
    have := (List.getElem?_eq_some_iff.1 hx).1
    simpa using this
  subst h0
  have : p = x := by simpa using hx
  subst this
  refine ⟨c, hl, hK, fun q u hq => ?_⟩
  rw [add_plain]
  have e : 0 * k.sz + q = q := by omega
  rw [e]
  exact hc q u hq
def b1 : S58 := ⟨[], 3, -1, []⟩
def f1 : S33 := ⟨⟨#[109, 97, 105, 110]⟩, 0, 0, 0, [b1]⟩
set_option maxHeartbeats 8000000 in
set_option maxRecDepth 100000 in
theorem one (w : World) : Calls Try.prog 26 #[] w fun e w' => ∃ gF, e = .returned (pv (some ⟨gF, 0, none⟩) 1 1 0 none 0 0 0) ∧ Aside0 (Kd.C k33 w' (some ⟨gF, 0, none⟩) 1 [f1]) ∧ Aside0 (Below w.heap.size w w') := by
  go_enter Try.func26, Try.ntmps26
  go_wp2
  have e0 := blk_new w (.cells #[.slice (some ⟨w.heap.size + 1 + 1, 0, none⟩) 1 1, .int .i64 0, .slice none 0 0, .int .i64 0] 25)
  generalize hW1 : w.alloc (.cells #[.slice (some ⟨w.heap.size + 1 + 1, 0, none⟩) 1 1, .int .i64 0, .slice none 0 0, .int .i64 0] 25) = W1 at *
  have s1 : W1.heap.size = w.heap.size + 1 := by rw [← hW1]; simp
  have e1 := blk_new W1 (.cells #[.slice none 0 0, .int .i64 3, .int .i64 (-1), .slice none 0 0] 58)
  generalize hW2 : W1.alloc (.cells #[.slice none 0 0, .int .i64 3, .int .i64 (-1), .slice none 0 0] 58) = W2 at *
  have s2 : W2.heap.size = w.heap.size + 1 + 1 := by rw [← hW2]; simp [s1]
  have e2 := blk_new W2 (.cells #[.string ⟨#[109, 97, 105, 110]⟩, .int .i64 0, .int .i64 0, .int .i64 0, .slice (some ⟨w.heap.size + 1, 0, none⟩) 1 1] 33)
  rw [s1] at e1
  rw [s2] at e2
  have c1 : Kd.C k58 (W2.alloc (.cells #[.string ⟨#[109, 97, 105, 110]⟩, .int .i64 0, .int .i64 0, .int .i64 0, .slice (some ⟨w.heap.size + 1, 0, none⟩) 1 1] 33)) (some ⟨w.heap.size + 1, 0, none⟩) 1 [b1] :=
    C_one (c := [.slice none 0 0, .int .i64 3, .int .i64 (-1), .slice none 0 0]) rfl (k58_mk _ b1 (Nat.le_refl _) (Kd.C_nil _ _) (Nat.le_refl _) (Kd.C_nil _ _)) (fun q u hq => by rw [blk_cell (blk_alloc e1 _) q]; simpa using hq)
  have c2 : Kd.C k33 (W2.alloc (.cells #[.string ⟨#[109, 97, 105, 110]⟩, .int .i64 0, .int .i64 0, .int .i64 0, .slice (some ⟨w.heap.size + 1, 0, none⟩) 1 1] 33)) (some ⟨w.heap.size + 1 + 1, 0, none⟩) 1 [f1] :=
    C_one (c := [.string ⟨#[109, 97, 105, 110]⟩, .int .i64 0, .int .i64 0, .int .i64 0, .slice (some ⟨w.heap.size + 1, 0, none⟩) 1 1]) rfl (k33_mk _ f1 (Nat.le_refl _) c1) (fun q u hq => by rw [blk_cell e2 q]; simpa using hq)
  have hB : Below w.heap.size w (W2.alloc (.cells #[.string ⟨#[109, 97, 105, 110]⟩, .int .i64 0, .int .i64 0, .int .i64 0, .slice (some ⟨w.heap.size + 1, 0, none⟩) 1 1] 33)) := by
    rw [← hW2, ← hW1]
    exact below_alloc (below_alloc (below_alloc (Below.refl _ _) _) _) _
  have e3 : (W2.alloc (.cells #[.string ⟨#[109, 97, 105, 110]⟩, .int .i64 0, .int .i64 0, .int .i64 0, .slice (some ⟨w.heap.size + 1, 0, none⟩) 1 1] 33)).heap[w.heap.size]? = some (.cells #[.slice (some ⟨w.heap.size + 1 + 1, 0, none⟩) 1 1, .int .i64 0, .slice none 0 0, .int .i64 0] 25 (0, 0)) := by
    rw [← hW2]
    exact blk_alloc (blk_alloc e0 _) _
  refine bodyPost_ret (results_cell_row rfl _ _ w.heap.size 25 #[.slice (some ⟨w.heap.size + 1 + 1, 0, none⟩) 1 1, .int .i64 0, .slice none 0 0, .int .i64 0] (0, 0) _ rfl e3 Try.underlying25 rfl (by kernel_rfl)) rfl ⟨w.heap.size + 1 + 1, rfl, ⟨c2⟩, ⟨hB⟩⟩

theorem reached_one : reached [b1] = [true] := by rfl
theorem gd_one : ∀ f ∈ [f1], gd33 f := by
  intro f hf b hb
  rw [List.mem_singleton.1 hf] at hb
  rw [List.mem_singleton.1 hb]
  exact ⟨by simp [b1], by simp [b1]⟩
theorem prog_one : progB [f1] 0 0 [] = true := by decide
theorem prog_none : progB [] 0 0 [] = false := by decide

set_option maxHeartbeats 8000000 in
set_option maxRecDepth 100000 in
theorem awake (w : World) : Calls Try.prog 11 #[] w (RetB (.bool true) w) := by
  go_enter Try.func11, Try.ntmps11
  go_wp2_with fail
  (with_reducible refine (one w).mono ?_)
  rintro e w1 ⟨gF, rfl, hC, hB⟩
  have hP : Aside0 ((w1.alloc (pb (some ⟨gF, 0, none⟩) 1 1 0 none 0 0 0)).heap[w1.heap.size]? = some (pb (some ⟨gF, 0, none⟩) 1 1 0 none 0 0 0)) := ⟨blk_new w1 _⟩
  have hB2 := Aside0.mk (below_step hB.out (below_alloc (Below.refl w1.heap.size w1) (pb (some ⟨gF, 0, none⟩) 1 1 0 none 0 0 0)))
  have hC2 := Aside0.mk (Kd.C_below hC.out (below_alloc (Below.refl w1.heap.size w1) (pb (some ⟨gF, 0, none⟩) 1 1 0 none 0 0 0)))
  obtain ⟨ad, A4, c4, e, x0, x1, x2, x3, x4, l4, g4⟩ := at_T33 hC2.out 0 (by omega) (by omega)
  cases e
  have er : rd_T33 [f1] 0 = f1 := rfl
  rw [er] at x0 x1 x2 x3 x4 g4
  simp only [add_plain, Int.toNat_zero, Nat.zero_mul] at x0 x1 x2 x3 x4
  clear hC hB er l4
  go_wp2_with fail
  (with_reducible refine (reached_walk f1.f0 f1.f1 f1.f2 f1.f3 A4 c4 f1.f4 ⟨g4⟩ (by decide)).mono ?_)
  rintro e w2 ⟨v, rfl, hM, b2⟩
  have hP2 := Aside0.mk ((b2.block _ (blk_lt hP.out)).trans hP.out)
  have hB3 := Aside0.mk (below_step hB2.out b2)
  have hC3 := Aside0.mk (Kd.C_below hC2.out b2)
  obtain ⟨gl, cl, e, hgb, hgl, _⟩ := Kd.R_form hM (show 0 < (reached f1.f4).length by decide)
  have elen : (reached f1.f4).length = 1 := by decide
  rw [elen] at e
  subst e
  have hM2 := Aside0.mk (Kd.R_reads' hM).2.2
  have p0 : w2.cell? ⟨w1.heap.size, 0, none⟩ = some (.slice (some ⟨gF, 0, none⟩) 1 1) := (blk_cell hP2.out 0).trans rfl
  have p1 : w2.cell? ⟨w1.heap.size, 1, none⟩ = some (.int .i64 0) := (blk_cell hP2.out 1).trans rfl
  have p2 : w2.cell? ⟨w1.heap.size, 2, none⟩ = some (.slice none 0 0) := (blk_cell hP2.out 2).trans rfl
  have p3 : w2.cell? ⟨w1.heap.size, 3, none⟩ = some (.int .i64 0) := (blk_cell hP2.out 3).trans rfl
  clear hM b2 hC2 hB2 hP x0 x1 x2 x3 x4 g4
  have k1 : Aside0 (Calls Try.prog 8 #[pv (some ⟨gF, 0, none⟩) 1 1 0 none 0 0 0] w2 (RetB (.int .i64 0) w2)) := ⟨by
    have := check (w := w2) (A0 := some ⟨gF, 0, none⟩) (A2 := none) (c0 := 1) (c2 := 0) (glob := 0) (main := 0) (fs := [f1]) (ds := []) ⟨gd_one⟩ hC3 ⟨Kd.C_nil _ _⟩
    rw [prog_one] at this
    exact this⟩
  go_wp2_with fail
  (with_reducible refine k1.out.mono ?_)
  rintro e w3 ⟨rfl, b3⟩
  have hB4 := Aside0.mk (below_step hB3.out b3)
  have hM3 := Aside0.mk (Kd.C_below hM2.out b3)
  clear b3 hC3 hB3 hM2 p0 p1 p2 p3 hP2 k1
  have k2 : Aside0 (Calls Try.prog 8 #[pv none 0 0 0 none 0 0 0] w3 (RetB (.int .i64 1) w3)) := ⟨by
    have := check (w := w3) (A0 := none) (A2 := none) (c0 := 0) (c2 := 0) (glob := 0) (main := 0) (fs := []) (ds := []) ⟨fun f hf => by cases hf⟩ ⟨Kd.C_nil _ _⟩ ⟨Kd.C_nil _ _⟩
    rw [prog_none] at this
    exact this⟩
  go_wp2_with fail
  (with_reducible refine k2.out.mono ?_)
  rintro e w4 ⟨rfl, b4⟩
  have hB5 := Aside0.mk (below_step hB4.out b4)
  have hM4 := Kd.C_below hM3.out b4
  obtain ⟨ad, e, x0⟩ := Kd.at_bool hM4 0 (by omega) (by omega)
  cases e
  have er : rdOf false (reached f1.f4) 0 = true := by decide
  rw [er] at x0
  simp only [add_plain, Int.toNat_zero] at x0
  clear b4 hM3 hM4 hB4 er k2
  go_wp2
  go_ret
  exact ⟨rfl, hB5.out⟩
end Go.Proofs.Ytobikiffjanagaa.IrA
