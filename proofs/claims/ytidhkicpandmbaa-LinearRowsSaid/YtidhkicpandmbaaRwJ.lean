/- The law of falls. -/
import Derived.Test.YtidhkicpandmbaaRwI
import Derived.Test.YtidhkicpandmbaaIrL
import Derived.Deep.RegionLaw
import Derived.Deep.RegionWith
import Derived.Laws.MakeOwn
namespace Go.Proofs.Ytidhkicpandmbaa.RwB
open Go.RowKit Go.Shelf Go.Proofs.YtidhkicpandmbaaW.PrintWords Go.Proofs.YtidhkicpandmbaaW.PrintLast Go.Proofs.YtidhkicpandmbaaW.PrintMore Go.Proofs.Ytidhkicpandmbaa.GF Go.Proofs.Ytidhkicpandmbaa.IrA Go.Proofs.Ytidhkicpandmbaa.RwA Go.Proofs.Ytidhkicpandmbaa.RwB Go.Proofs.Ytidhkicpandmbaa.RwC
set_option linter.unusedVariables false
set_option linter.unusedSimpArgs false
theorem func {w : World} {A0 A2 A8 : Option Addr} {n0 c0 n2 c2 c8 : Nat} {glob main pa re sl : Int} {nm : ByteArray} {fs : List S28} {bs : List S39} (hgd : Aside0 (∀ b ∈ bs, gd39 b)) (hn : fs.length = n0) (hf : Aside0 (Kd.C k28 w A0 n0 fs)) (hb : Aside0 (Kd.C k39 w A8 bs.length bs)) :
    Calls Try.prog 10 #[pv A0 n0 c0 glob A2 n2 c2 main, fv nm pa re sl A8 bs.length c8] w (RetB (.bool (checkB fs glob pa re sl bs)) w) := by
  cases h : sizesB pa re sl bs
  · have : checkB fs glob pa re sl bs = false := by unfold checkB; rw [h]; rfl
    rw [this]
    exact func_no h (Kd.C_max hb.out)
  · rw [← funcR_eq]
    exact func_yes h hgd hn hf hb
theorem info28' : (Try.prog.info? 28).map (fun i => (i.zero, i.size, i.bytes)) = some (some (.agg #[.string ⟨#[]⟩, .int .i64 0, .int .i64 0, .int .i64 0, .slice none 0 0]), 5, 64) := by kernel_rfl
theorem made256 (W : World) : (Instr.makeSlice 22 (.int .i64 256) (.int .i64 256)).run Try.prog W = .ok (.slice (some ⟨W.heap.size, 0, none⟩) 256 256) (W.alloc (.cells (madeCells #[.string ⟨#[]⟩, .int .i64 0, .int .i64 0, .int .i64 0, .slice none 0 0] 1280) 28)) := by
  obtain ⟨i0, hi, hz⟩ := Option.map_eq_some_iff.1 info28'
  simp only [Prod.mk.injEq] at hz
  obtain ⟨hz0, hz1, hz2⟩ := hz
  have h := run_make (P := Try.prog) (w := W) 22 28 i0 _ Try.underlying22 hi hz0 .i64 .i64 256 256 (by omega) (by omega) (by rw [hz2]; decide) (by omega)
  rw [hz1] at h
  exact h
theorem C_zeros (W : World) (g : Nat) (h : W.heap[g]? = some (.cells (madeCells #[.string ⟨#[]⟩, .int .i64 0, .int .i64 0, .int .i64 0, .slice none 0 0] 1280) 28 (0, 0))) : Kd.C k28 W (some ⟨g, 0, none⟩) 256 (List.replicate 256 z28) := by
  refine ⟨by rw [List.length_replicate], by omega, fun _ => ⟨⟨g, 0, none⟩, rfl, fun i x hx => ?_⟩⟩
  have hi : i < 256 := by
    have := (List.getElem?_eq_some_iff.1 hx).1
    rwa [List.length_replicate] at this
  have : z28 = x := by
    rw [List.getElem?_replicate, if_pos hi] at hx
    exact Option.some.inj hx
  subst this
  refine ⟨[.string ⟨#[]⟩, .int .i64 0, .int .i64 0, .int .i64 0, .slice none 0 0], rfl, k28_mk _ z28 (Nat.le_refl _) (Kd.C_nil _ _), fun q u hq => ?_⟩
  rw [add_plain, blk_cell h]
  have hq5 : q < 5 := (List.getElem?_eq_some_iff.1 hq).1
  have hsz : k28.sz = 5 := rfl
  rw [hsz]
  have hlt : i * 5 + q < 1280 := by omega
  simp only [madeCells]
  rw [Array.getElem?_map, Array.getElem?_eq_getElem (by simpa using hlt)]
  simp only [Option.map_some, Array.getElem_range, List.size_toArray, List.length_cons, List.length_nil]
  have e : (i * 5 + q) % (0 + 1 + 1 + 1 + 1 + 1) = q := by omega
  rw [e]
  match q, hq5, hq with
  | 0, _, hq => simpa using hq
  | 1, _, hq => simpa using hq
  | 2, _, hq => simpa using hq
  | 3, _, hq => simpa using hq
  | 4, _, hq => simpa using hq
theorem bcell {W w1 : World} (hb : Below W.heap.size W w1) : (∀ b o, b < W.heap.size → w1.cell? ⟨b, o, none⟩ = W.cell? ⟨b, o, none⟩) ∧ (∀ b o, b < W.heap.size → w1.frozen? ⟨b, o, none⟩ = W.frozen? ⟨b, o, none⟩) :=
  ⟨fun b o h => hb.cell (p := ⟨b, o, none⟩) h, fun b o h => hb.frozen (p := ⟨b, o, none⟩) h⟩
theorem R_emp (W : World) (base : Nat) (h : base ≤ W.heap.size) : Kd.R (Kd.int .i64) 3 (W.alloc (.cells #[] 3)) base (fun _ => True) (.slice (some ⟨W.heap.size, 0, none⟩) 0 0) [] :=
  ⟨fun _ _ => trivial, [], World.ownsRow_lit (base := base) (e := 3) (size := 1) W #[] 0 h (by simp) (by simp), Reps.none _ _⟩
set_option maxHeartbeats 16000000 in
set_option maxRecDepth 100000 in
theorem falls_law {w : World} (nm : ByteArray) (pa re sl : Int) (A A1 : Option Addr) (c c1 : Nat) (bs : List S39) (row : List Int) (hgd : Aside0 (∀ b ∈ bs, gd39 b)) (hl : Aside0 (Kd.C k39 w A bs.length bs)) (hr : Aside0 (Kd.C (Kd.int .i64) w A1 row.length row)) (hc1 : row.length ≤ c1) (hrl : row.length * 8 ≤ 140737488351232) :
    Calls Try.prog 4 #[fv nm pa re sl A bs.length c, .slice A1 row.length c1] w (RetB (.bool true) w) := by
  have hmx := Kd.C_max hl.out
  have hX : Aside0 ((w.alloc (fb nm pa re sl A bs.length c)).heap[w.heap.size]? = some (fb nm pa re sl A bs.length c)) := ⟨blk_new w _⟩
  have hB : Aside0 (Below w.heap.size w (w.alloc (fb nm pa re sl A bs.length c))) := ⟨below_alloc (Below.refl _ _) _⟩
  have hlt := Aside0.mk (fun W b => light nm pa re sl A c bs (w := W) ⟨Kd.C_below hl.out b⟩)
  have haw := Aside0.mk awake
  go_enter Try.func4, Try.ntmps4
  go_upto_region 1 with (fail)
  generalize w.alloc (Obj.cells #[Value.string nm, Value.int IntKind.i64 pa, Value.int IntKind.i64 re, Value.int IntKind.i64 sl, Value.slice A bs.length c] 28) = W at *
  have y0 : W.cell? ⟨w.heap.size, 0, none⟩ = some (.string nm) := (blk_cell hX.out 0).trans rfl
  have y1 : W.cell? ⟨w.heap.size, 1, none⟩ = some (.int .i64 pa) := (blk_cell hX.out 1).trans rfl
  have y2 : W.cell? ⟨w.heap.size, 2, none⟩ = some (.int .i64 re) := (blk_cell hX.out 2).trans rfl
  have y3 : W.cell? ⟨w.heap.size, 3, none⟩ = some (.int .i64 sl) := (blk_cell hX.out 3).trans rfl
  have y4 : W.cell? ⟨w.heap.size, 4, none⟩ = some (.slice A bs.length c) := (blk_cell hX.out 4).trans rfl
  cases hb : lightB re sl bs
  · rw [hb] at hlt
    clear hb
    go_region_with (go_at_call 9; (with_reducible refine (hlt.out _ (below_drew hB.out)).mono ?_); rintro e w1 ⟨rfl, hb1⟩; have hB1 := Aside0.mk (below_step (below_drew hB.out) hb1); clear hb1)
    go_wp2_with ((with_reducible refine (haw.out _).mono ?_); rintro e w2 ⟨rfl, hb2⟩; have hB2 := Aside0.mk (below_step hB1.out hb2); clear hb2)
    all_goals
      go_ret
      exact ⟨rfl, hB2.out⟩
  · rw [hb] at hlt
    clear hb
    have h10 := Aside0.mk (fun (g : Nat) (W : World) (hC : Kd.C k28 W (some ⟨g, 0, none⟩) 256 (List.replicate 256 z28)) (b : Below w.heap.size w W) => func (w := W) (A0 := some ⟨g, 0, none⟩) (A2 := none) (A8 := A) (n0 := 256) (c0 := 256) (n2 := 0) (c2 := 0) (c8 := c) (glob := 65536) (main := 0) (pa := pa) (re := re) (sl := sl) (nm := nm) (fs := List.replicate 256 z28) (bs := bs) hgd (by rw [List.length_replicate]) ⟨hC⟩ ⟨Kd.C_below hl.out b⟩)
    have hmk := made256
    cases hv : checkB (List.replicate 256 z28) 65536 pa re sl bs
    · rw [hv] at h10
      clear hv
      go_region_with (first | (go_at_call 9; (with_reducible refine (hlt.out _ (below_drew hB.out)).mono ?_); rintro e w1 ⟨rfl, hb1⟩; have hB1 := Aside0.mk (below_step (below_drew hB.out) hb1); have hX1 := blk_below (blk_drew hX.out) hb1; have x0 : w1.cell? ⟨w.heap.size, 0, none⟩ = some (.string nm) := (blk_cell hX1 0).trans rfl; have x1 : w1.cell? ⟨w.heap.size, 1, none⟩ = some (.int .i64 pa) := (blk_cell hX1 1).trans rfl; have x2 : w1.cell? ⟨w.heap.size, 2, none⟩ = some (.int .i64 re) := (blk_cell hX1 2).trans rfl; have x3 : w1.cell? ⟨w.heap.size, 3, none⟩ = some (.int .i64 sl) := (blk_cell hX1 3).trans rfl; have x4 : w1.cell? ⟨w.heap.size, 4, none⟩ = some (.slice A bs.length c) := (blk_cell hX1 4).trans rfl; have nx := World.new_ne w1 _ x0; have lx : w.heap.size < w1.heap.size := blk_lt hX1; replace hX1 := Aside0.mk hX1; clear hb1) | (go_at_call 10; (with_reducible refine Calls.mono (h10.out _ _ ?hC (below_alloc hB1.out _)) ?_); (case hC => exact C_zeros _ _ (blk_new w1 _)); rintro e w2 ⟨rfl, hb2⟩; have hB2 := Aside0.mk (below_step (below_alloc hB1.out _) hb2); clear hb2))
      all_goals
        go_wp2_with ((with_reducible refine (haw.out _).mono ?_); rintro e w3 ⟨rfl, hb3⟩; have hB3 := Aside0.mk (below_step hB2.out hb3); clear hb3)
        go_ret
        exact ⟨rfl, hB3.out⟩
    · rw [hv] at h10
      clear hv
      go_cut [14] (fun s14 wx => s14 = .bool false ∧ Aside0 (Below w.heap.size w wx) ∧ Aside0 (wx.heap[w.heap.size]? = some (fb nm pa re sl A bs.length c)))
      case first =>
        go_region_with (first | (go_at_call 9; (with_reducible refine (hlt.out _ (below_drew hB.out)).mono ?_); rintro e w1 ⟨rfl, hb1⟩; have hB1 := Aside0.mk (below_step (below_drew hB.out) hb1); have hX1 := blk_below (blk_drew hX.out) hb1; have x0 : w1.cell? ⟨w.heap.size, 0, none⟩ = some (.string nm) := (blk_cell hX1 0).trans rfl; have x1 : w1.cell? ⟨w.heap.size, 1, none⟩ = some (.int .i64 pa) := (blk_cell hX1 1).trans rfl; have x2 : w1.cell? ⟨w.heap.size, 2, none⟩ = some (.int .i64 re) := (blk_cell hX1 2).trans rfl; have x3 : w1.cell? ⟨w.heap.size, 3, none⟩ = some (.int .i64 sl) := (blk_cell hX1 3).trans rfl; have x4 : w1.cell? ⟨w.heap.size, 4, none⟩ = some (.slice A bs.length c) := (blk_cell hX1 4).trans rfl; have nx := World.new_ne w1 _ x0; have lx : w.heap.size < w1.heap.size := blk_lt hX1; replace hX1 := Aside0.mk hX1; clear hb1) | (go_at_call 10; (with_reducible refine Calls.mono (h10.out _ _ ?hC (below_alloc hB1.out _)) ?_); (case hC => exact C_zeros _ _ (blk_new w1 _)); rintro e w2 ⟨rfl, hb2⟩; have hB2 := Aside0.mk (below_step (below_alloc hB1.out _) hb2); have hX2 := Aside0.mk (blk_below (blk_alloc hX1.out _) hb2); clear hb2))
        all_goals
          go_wp2_with fail
          go_meet
          exact ⟨rfl, hB2, hX2⟩
      case rest =>
        obtain ⟨rfl, hB3, hX3⟩ := hcut
        clear y0 y1 y2 y3 y4 h10 hlt hX hB hmk
        have hF1 := Aside0.mk (fun (W' : World) (A' : Option Addr) (c' : Nat) (b : Below w.heap.size w W') (h : Kd.C (Kd.int .i64) W' A' row.length row) => fallsL (w := W') nm pa re sl A A' c c' bs row ⟨Kd.C_below hl.out b⟩ ⟨h⟩ (by omega))
        have hF2 := Aside0.mk (fun (W' : World) (b : Below w.heap.size w W') => fallsR (w := W') nm pa re sl A A1 c c1 bs row ⟨Kd.C_below hl.out b⟩ ⟨Kd.C_below hr.out b⟩ (by omega))
        generalize fallsN bs.length (ToB bs) row = Z at *
        go_wp2_with fail
        have y0 : wc.cell? ⟨w.heap.size, 0, none⟩ = some (.string nm) := (blk_cell hX3.out 0).trans rfl; have y1 : wc.cell? ⟨w.heap.size, 1, none⟩ = some (.int .i64 pa) := (blk_cell hX3.out 1).trans rfl; have y2 : wc.cell? ⟨w.heap.size, 2, none⟩ = some (.int .i64 re) := (blk_cell hX3.out 2).trans rfl; have y3 : wc.cell? ⟨w.heap.size, 3, none⟩ = some (.int .i64 sl) := (blk_cell hX3.out 3).trans rfl; have y4 : wc.cell? ⟨w.heap.size, 4, none⟩ = some (.slice A bs.length c) := (blk_cell hX3.out 4).trans rfl
        have lx : w.heap.size < wc.heap.size := blk_lt hX3.out
        go_region_law (first | (refine Kd.R_append_rows_step (Kd.int .i64) (w0 := w) w.heap.size (by simp [Region.wanted]) (.tmp 17) (.tmp 18) 29 3 (.int .i64 0) 8 rfl Try.underlying29 info3' rfl (by decide) (by omega) (.slice (some ⟨wc.heap.size, 0, none⟩) 0 0) ([] : List Int) row A1 row.length c1 (fun _ => True) (fun _ => False) rfl rfl (Kd.R_drew (R_emp wc w.heap.size hB3.out.size)) (Kd.C_below hr.out (below_drew (below_alloc hB3.out _))) (fun _ _ h => h) (fun _ h => h.elim) (fun _ _ => trivial) (below_drew (below_alloc hB3.out _)) (below_size (below_drew (below_alloc hB3.out _))) (by simp; omega) ?_; intro v1 w1 ho hb hg hat; have hX5 := blk_grown (blk_drew (blk_alloc hX3.out (.cells #[] 3))) hg (fun e => by have := blk_lt hX3.out; simp [Value.ownBlock] at e; omega); have hB5 := Aside0.mk hb; obtain ⟨A5, c5, rfl, _, hC5⟩ := Kd.R_reads ho; replace hC5 := Aside0.mk hC5; have z0 : w1.cell? ⟨w.heap.size, 0, none⟩ = some (.string nm) := (blk_cell hX5 0).trans rfl; have z1 : w1.cell? ⟨w.heap.size, 1, none⟩ = some (.int .i64 pa) := (blk_cell hX5 1).trans rfl; have z2 : w1.cell? ⟨w.heap.size, 2, none⟩ = some (.int .i64 re) := (blk_cell hX5 2).trans rfl; have z3 : w1.cell? ⟨w.heap.size, 3, none⟩ = some (.int .i64 sl) := (blk_cell hX5 3).trans rfl; have z4 : w1.cell? ⟨w.heap.size, 4, none⟩ = some (.slice A bs.length c) := (blk_cell hX5 4).trans rfl; have lx1 := blk_lt hX5; replace hX5 := Aside0.mk hX5; clear ho hb hg hat) | (go_simp; go_at_call 15; (with_reducible refine (hF1.out _ _ _ hB5.out hC5.out).mono ?_); rintro e w2 ⟨rfl, hb2⟩; have hX6 := blk_below hX5.out hb2; have u0 : w2.cell? ⟨w.heap.size, 0, none⟩ = some (.string nm) := (blk_cell hX6 0).trans rfl; have u1 : w2.cell? ⟨w.heap.size, 1, none⟩ = some (.int .i64 pa) := (blk_cell hX6 1).trans rfl; have u2 : w2.cell? ⟨w.heap.size, 2, none⟩ = some (.int .i64 re) := (blk_cell hX6 2).trans rfl; have u3 : w2.cell? ⟨w.heap.size, 3, none⟩ = some (.int .i64 sl) := (blk_cell hX6 3).trans rfl; have u4 : w2.cell? ⟨w.heap.size, 4, none⟩ = some (.slice A bs.length c) := (blk_cell hX6 4).trans rfl; have hB6 := Aside0.mk (below_step hB5.out hb2); clear hb2) | (go_simp; go_at_call 16; (with_reducible refine (hF2.out _ hB6.out).mono ?_); rintro e w3 ⟨rfl, hb3⟩; have hB7 := Aside0.mk (below_step hB6.out hb3); clear hb3) | (go_simp; go_at_call 11; (with_reducible refine (haw.out _).mono ?_); rintro e w4 ⟨rfl, hb4⟩; have hB8 := Aside0.mk (below_step hB7.out hb4); clear hb4))
        all_goals
          go_wp2_with fail
          go_ret
          exact ⟨rfl, hB8.out⟩
end Go.Proofs.Ytidhkicpandmbaa.RwB
