/- The law of rows, walked. -/
import Derived.Test.YtidhkicpandmbaaRwL
namespace Go.Proofs.Ytidhkicpandmbaa.RwB
open Go.RowKit Go.Shelf Go.Proofs.YtidhkicpandmbaaW.PrintWords Go.Proofs.YtidhkicpandmbaaW.PrintLast Go.Proofs.YtidhkicpandmbaaW.PrintMore Go.Proofs.Ytidhkicpandmbaa.GF Go.Proofs.Ytidhkicpandmbaa.IrA Go.Proofs.Ytidhkicpandmbaa.RwA Go.Proofs.Ytidhkicpandmbaa.RwB Go.Proofs.Ytidhkicpandmbaa.RwC
set_option linter.unusedVariables false
set_option linter.unusedSimpArgs false
variable {w : World} {A0 A2 A8 : Option Addr} {n0 c0 n2 c2 c8 : Nat} {glob main pa re sl : Int} {nm : ByteArray} {fs : List S28} {bs : List S39}
/-- Behind all that was made: the row of places. -/
def Wx (W7 : World) (gat : Nat) (l : List Int) (W : World) : Prop := Below W7.heap.size W7 W ∧ Rw W gat l
theorem Wx.below {W7 W W2 : World} {gat : Nat} {l : List Int} (h : Wx W7 gat l W) (k : Below W.heap.size W W2) : Wx W7 gat l W2 := ⟨below_step h.1 k, h.2.below k⟩
theorem Wx.drewN {W7 W : World} {gat : Nat} {l : List Int} (h : Wx W7 gat l W) (n : Nat) : Wx W7 gat l (W.drewN n) := ⟨bdn h.1 n, h.2⟩
theorem Wx.put {W7 W : World} {gat : Nat} {l : List Int} (h : Wx W7 gat l W) (hg : W7.heap.size ≤ gat) (i : Nat) (x : Int) : Wx W7 gat (l.set i x) (W.setCell ⟨gat, i, none⟩ (.int .i64 x)) := ⟨h.1.setCell (p := ⟨gat, i, none⟩) hg _, h.2.put i x⟩
theorem mk0' (n : Nat) : madeCells #[.int .i64 0] n = (nums .i64 (List.replicate n 0)).toArray := by rw [mk0]; simp [ini]
set_option maxHeartbeats 16000000 in
set_option maxRecDepth 100000 in
theorem rows_law (hgd : Aside0 (∀ b ∈ bs, gd39 b)) (hf : Aside0 (Kd.C k28 w A0 fs.length fs)) (hb : Aside0 (Kd.C k39 w A8 bs.length bs)) (hbl : bs.length ≤ 2199023255552) :
    Calls Try.prog 3 #[pv A0 fs.length c0 glob A2 n2 c2 main, fv nm pa re sl A8 bs.length c8] w (RetB (.bool true) w) := by
  have hB : Aside0 (Below w.heap.size w ((w.alloc (pb A0 fs.length c0 glob A2 n2 c2 main)).alloc (fb nm pa re sl A8 bs.length c8))) := ⟨below_alloc (below_alloc (Below.refl _ _) _) _⟩
  have e0 : Aside0 (((w.alloc (pb A0 fs.length c0 glob A2 n2 c2 main)).alloc (fb nm pa re sl A8 bs.length c8)).heap[w.heap.size]? = some (pb A0 fs.length c0 glob A2 n2 c2 main)) := ⟨blk_alloc (blk_new w _) _⟩
  have e1 : Aside0 (((w.alloc (pb A0 fs.length c0 glob A2 n2 c2 main)).alloc (fb nm pa re sl A8 bs.length c8)).heap[w.heap.size + 1]? = some (fb nm pa re sl A8 bs.length c8)) := ⟨by
    have h := blk_new (w.alloc (pb A0 fs.length c0 glob A2 n2 c2 main)) (fb nm pa re sl A8 bs.length c8)
    rwa [World.size_alloc] at h⟩
  have hlt := Aside0.mk (fun W b => light nm pa re sl A8 c8 bs (w := W) ⟨Kd.C_below hb.out b⟩)
  have hrw := Aside0.mk (fun W b => row_walk nm pa re sl A8 c8 bs (w := W) ⟨Kd.C_below hb.out b⟩ hbl)
  have h10 : Aside0 (∀ W, Below w.heap.size w W → Calls Try.prog 10 #[pv A0 fs.length c0 glob A2 n2 c2 main, fv nm pa re sl A8 bs.length c8] W (RetB (.bool (checkB fs glob pa re sl bs)) W)) := ⟨fun W b => func hgd rfl ⟨Kd.C_below hf.out b⟩ ⟨Kd.C_below hb.out b⟩⟩
  have hrr := Aside0.mk (fun W b => rreached_walk nm pa re sl A8 c8 bs (w := W) ⟨Kd.C_below hb.out b⟩ hbl)
  have haw := Aside0.mk awake
  go_enter Try.func3, Try.ntmps3
  go_upto_region 1 with (fail)
  generalize (w.alloc (Obj.cells #[Value.slice A0 fs.length c0, Value.int IntKind.i64 glob, Value.slice A2 n2 c2, Value.int IntKind.i64 main] 25)).alloc (Obj.cells #[Value.string nm, Value.int IntKind.i64 pa, Value.int IntKind.i64 re, Value.int IntKind.i64 sl, Value.slice A8 bs.length c8] 28) = W0 at *
  have y0 : W0.cell? ⟨w.heap.size + 1, 0, none⟩ = some (.string nm) := (blk_cell e1.out 0).trans rfl
  have y1 : W0.cell? ⟨w.heap.size + 1, 1, none⟩ = some (.int .i64 pa) := (blk_cell e1.out 1).trans rfl
  have y2 : W0.cell? ⟨w.heap.size + 1, 2, none⟩ = some (.int .i64 re) := (blk_cell e1.out 2).trans rfl
  have y3 : W0.cell? ⟨w.heap.size + 1, 3, none⟩ = some (.int .i64 sl) := (blk_cell e1.out 3).trans rfl
  have y4 : W0.cell? ⟨w.heap.size + 1, 4, none⟩ = some (.slice A8 bs.length c8) := (blk_cell e1.out 4).trans rfl
  go_upto_region 2 with ((with_reducible refine (hrw.out _ hB.out).mono ?_); rintro e w1 ⟨v, g, rfl, hRI, hR, hb1⟩; have hRI := Aside0.mk hRI; have hR := Aside0.mk hR; have hB1 := Aside0.mk (below_step hB.out hb1); have hX1 := Aside0.mk (blk_below e1.out hb1); have hP1 := Aside0.mk (blk_below e0.out hb1); clear hb1)
  clear y0 y1 y2 y3 y4 hB e0 e1
  obtain ⟨A5, c5, rfl⟩ := Kd.R_slice hR.out
  have y0 : w1.cell? ⟨w.heap.size + 1, 0, none⟩ = some (.string nm) := (blk_cell hX1.out 0).trans rfl
  have y1 : w1.cell? ⟨w.heap.size + 1, 1, none⟩ = some (.int .i64 pa) := (blk_cell hX1.out 1).trans rfl
  have y2 : w1.cell? ⟨w.heap.size + 1, 2, none⟩ = some (.int .i64 re) := (blk_cell hX1.out 2).trans rfl
  have y3 : w1.cell? ⟨w.heap.size + 1, 3, none⟩ = some (.int .i64 sl) := (blk_cell hX1.out 3).trans rfl
  have y4 : w1.cell? ⟨w.heap.size + 1, 4, none⟩ = some (.slice A8 bs.length c8) := (blk_cell hX1.out 4).trans rfl
  have z0 : w1.cell? ⟨w.heap.size, 0, none⟩ = some (.slice A0 fs.length c0) := (blk_cell hP1.out 0).trans rfl
  have z1 : w1.cell? ⟨w.heap.size, 1, none⟩ = some (.int .i64 glob) := (blk_cell hP1.out 1).trans rfl
  have z2 : w1.cell? ⟨w.heap.size, 2, none⟩ = some (.slice A2 n2 c2) := (blk_cell hP1.out 2).trans rfl
  have z3 : w1.cell? ⟨w.heap.size, 3, none⟩ = some (.int .i64 main) := (blk_cell hP1.out 3).trans rfl
  cases hL : lightB re sl bs
  · rw [hL] at hlt
    clear hL
    go_wp2_with (first | ((with_reducible refine (hlt.out _ hB1.out).mono ?_); rintro e w2 ⟨rfl, hb2⟩; have hB2 := Aside0.mk (below_step hB1.out hb2); clear hb2) | ((with_reducible refine (haw.out _).mono ?_); rintro e w3 ⟨rfl, hb3⟩; have hB3 := Aside0.mk (below_step hB2.out hb3); clear hb3))
    go_ret
    exact ⟨rfl, hB3.out⟩
  rw [hL] at hlt
  have h48 := lightB_len hL
  clear hL
  cases hC : checkB fs glob pa re sl bs
  · rw [hC] at h10
    clear hC
    go_wp2_with (first | ((with_reducible refine (hlt.out _ hB1.out).mono ?_); rintro e w2 ⟨rfl, hb2⟩; have hX2 := blk_below hX1.out hb2; have hP2 := blk_below hP1.out hb2; have y0 : w2.cell? ⟨w.heap.size + 1, 0, none⟩ = some (.string nm) := (blk_cell hX2 0).trans rfl; have y1 : w2.cell? ⟨w.heap.size + 1, 1, none⟩ = some (.int .i64 pa) := (blk_cell hX2 1).trans rfl; have y2 : w2.cell? ⟨w.heap.size + 1, 2, none⟩ = some (.int .i64 re) := (blk_cell hX2 2).trans rfl; have y3 : w2.cell? ⟨w.heap.size + 1, 3, none⟩ = some (.int .i64 sl) := (blk_cell hX2 3).trans rfl; have y4 : w2.cell? ⟨w.heap.size + 1, 4, none⟩ = some (.slice A8 bs.length c8) := (blk_cell hX2 4).trans rfl; have z0 : w2.cell? ⟨w.heap.size, 0, none⟩ = some (.slice A0 fs.length c0) := (blk_cell hP2 0).trans rfl; have z1 : w2.cell? ⟨w.heap.size, 1, none⟩ = some (.int .i64 glob) := (blk_cell hP2 1).trans rfl; have z2 : w2.cell? ⟨w.heap.size, 2, none⟩ = some (.slice A2 n2 c2) := (blk_cell hP2 2).trans rfl; have z3 : w2.cell? ⟨w.heap.size, 3, none⟩ = some (.int .i64 main) := (blk_cell hP2 3).trans rfl; have hB2 := Aside0.mk (below_step hB1.out hb2); clear hb2) | ((with_reducible refine (h10.out _ hB2.out).mono ?_); rintro e w3 ⟨rfl, hb3⟩; have hB3 := Aside0.mk (below_step hB2.out hb3); clear hb3) | ((with_reducible refine (haw.out _).mono ?_); rintro e w4 ⟨rfl, hb4⟩; have hB4 := Aside0.mk (below_step hB3.out hb4); clear hb4))
    go_ret
    exact ⟨rfl, hB4.out⟩
  rw [hC] at h10
  have hRF := Aside0.mk (RF.of hC hRI.out)
  clear hC
  generalize outTo (reached bs) g.a g.b g.ln bs.length = row at *
  clear hRI
  obtain ⟨g5, cap5, ev, _⟩ := Kd.R_form hR.out hRF.out.pos
  injection ev with ev _ _
  subst ev
  go_upto_region 4 with (first | ((with_reducible refine (hlt.out _ hB1.out).mono ?_); rintro e w2 ⟨rfl, hb2⟩; have hX2 := blk_below hX1.out hb2; have hP2 := blk_below hP1.out hb2; have y0 : w2.cell? ⟨w.heap.size + 1, 0, none⟩ = some (.string nm) := (blk_cell hX2 0).trans rfl; have y1 : w2.cell? ⟨w.heap.size + 1, 1, none⟩ = some (.int .i64 pa) := (blk_cell hX2 1).trans rfl; have y2 : w2.cell? ⟨w.heap.size + 1, 2, none⟩ = some (.int .i64 re) := (blk_cell hX2 2).trans rfl; have y3 : w2.cell? ⟨w.heap.size + 1, 3, none⟩ = some (.int .i64 sl) := (blk_cell hX2 3).trans rfl; have y4 : w2.cell? ⟨w.heap.size + 1, 4, none⟩ = some (.slice A8 bs.length c8) := (blk_cell hX2 4).trans rfl; have z0 : w2.cell? ⟨w.heap.size, 0, none⟩ = some (.slice A0 fs.length c0) := (blk_cell hP2 0).trans rfl; have z1 : w2.cell? ⟨w.heap.size, 1, none⟩ = some (.int .i64 glob) := (blk_cell hP2 1).trans rfl; have z2 : w2.cell? ⟨w.heap.size, 2, none⟩ = some (.slice A2 n2 c2) := (blk_cell hP2 2).trans rfl; have z3 : w2.cell? ⟨w.heap.size, 3, none⟩ = some (.int .i64 main) := (blk_cell hP2 3).trans rfl; have hB2 := Aside0.mk (below_step hB1.out hb2); have hR2 := Aside0.mk (Kd.C_below (Kd.R_reads' hR.out).2.2 hb2); replace hX2 := Aside0.mk hX2; clear hb2 hP2) | ((with_reducible refine (h10.out _ hB2.out).mono ?_); rintro e w3 ⟨rfl, hb3⟩; have hB3 := Aside0.mk (below_step hB2.out hb3); have hR3 := Aside0.mk (Kd.C_below hR2.out hb3); have hX3 := Aside0.mk (blk_below hX2.out hb3); clear hb3))
  clear hR hB1 hX1 hP1 hR2 hB2 hX2 y0 y1 y2 y3 y4 z0 z1 z2 z3 h10 hlt hrw
  have y0 : w3.cell? ⟨w.heap.size + 1, 0, none⟩ = some (.string nm) := (blk_cell hX3.out 0).trans rfl
  have y1 : w3.cell? ⟨w.heap.size + 1, 1, none⟩ = some (.int .i64 pa) := (blk_cell hX3.out 1).trans rfl
  have y2 : w3.cell? ⟨w.heap.size + 1, 2, none⟩ = some (.int .i64 re) := (blk_cell hX3.out 2).trans rfl
  have y3 : w3.cell? ⟨w.heap.size + 1, 3, none⟩ = some (.int .i64 sl) := (blk_cell hX3.out 3).trans rfl
  have y4 : w3.cell? ⟨w.heap.size + 1, 4, none⟩ = some (.slice A8 bs.length c8) := (blk_cell hX3.out 4).trans rfl
  have hlen := Aside0.mk (reached_length bs)
  go_upto_region 5 with ((with_reducible refine (hrr.out _ hB3.out).mono ?_); rintro e w4 ⟨v6, rfl, hM, hb4⟩; obtain ⟨A6, c6, rfl⟩ := Kd.R_slice hM; have hM4 := Aside0.mk (Rb.of_R hM); have hB4 := Aside0.mk (below_step hB3.out hb4); have hR4 := Aside0.mk (Kd.C_below hR3.out hb4); have hX4 := Aside0.mk (blk_below hX3.out hb4); clear hM hb4)
  clear hR3 hB3 hX3 y0 y1 y2 y3 y4 hrr
  have y4 : w4.cell? ⟨w.heap.size + 1, 4, none⟩ = some (.slice A8 bs.length c8) := (blk_cell hX4.out 4).trans rfl
  have hmk := print_make (P := Try.prog) 29 3 .i64 8 Try.underlying29 info3' (by decide) bs.length (by omega)
  have hl4 := Aside0.mk (Kd.C_below hb.out hB4.out)
  have hWx : Aside0 (Wx w4 w4.heap.size (atP row bs.length 0) (w4.alloc (.cells (madeCells #[.int .i64 0] bs.length) 3))) := ⟨below_alloc (Below.refl _ _) _, by
    have h := blk_new w4 (.cells (madeCells #[.int .i64 0] bs.length) 3)
    rw [mk0'] at h ⊢
    exact h⟩
  have hlr := hRF.out.len
  have hlx : w.heap.size + 1 < w4.heap.size := blk_lt hX4.out
  go_wp2_with fail
  generalize w4.alloc (Obj.cells (madeCells #[Value.int IntKind.i64 0] bs.length) 3) = W5 at *
  obtain ⟨gat, hgat⟩ : ∃ gat, gat = w4.heap.size := ⟨_, rfl⟩
  rw [← hgat] at hWx ⊢
  replace hgat := Aside0.mk (Nat.le_of_eq hgat.symm)
  clear hmk y4 hgd hf hb
  go_loopw [8] (fun i wr => ∃ j : Nat, j ≤ row.length ∧ i = .int .i64 (j : Int) ∧ Aside0 (Wx w4 gat (atP row bs.length j) wr)) (fun i _ => row.length - (intOf i).toNat)
  case atStart => exact ⟨0, by omega, rfl, hWx⟩
  case round =>
    obtain ⟨j, hj, rfl, hW⟩ := hrel
    clear hWx
    by_cases hl1 : j < row.length
    · obtain ⟨a5, e, r0⟩ := Kd.at_int hR4.out (j : Int) (by omega) (by omega)
      cases e
      rw [Int.toNat_natCast, show rd row (j : Int) = row.getD j 0 by simp [rd], add_plain] at r0
      have p5 := add_plain g5 j
      have hm := (hRF.out.mem _).1 (getD_mem0 hl1)
      have hset : Aside0 (atP row bs.length (j + 1) = (atP row bs.length j).set (row.getD j 0).toNat ((j : Int) + 1)) := ⟨rfl⟩
      have h0 : (atP row bs.length j).getD (row.getD j 0).toNat 0 = 0 := atP_no hRF.out j (by omega) _ (by omega) (fun k hk e => by have := nodup_inj hRF.out.nd (i := k) (j := j) (by omega) hl1 (by omega); omega)
      obtain ⟨x, hx⟩ := Int.eq_ofNat_of_zero_le hm.1
      rw [hx] at r0 hset h0 hm
      rw [Int.toNat_natCast] at h0 hset
      have hxn : x < bs.length := by omega
      replace r0 := (hW.out.1.cell (World.block_lt_of_cell? w4 _ r0)).trans r0
      have s0 := hW.out.2.at_ x (by rw [atP_length]; exact hxn)
      rw [h0] at s0
      have f0 := hW.out.2.fz x
      have p0 := add_plain gat x
      have q0 : (x : Int) < (bs.length : Int) := by omega
      have q1 : (j : Int) < (row.length : Int) := by omega
      have q2 : (0 : Int) ≤ (x : Int) := by omega
      have hput := Aside0.mk (hW.out.put hgat.out x ((j : Int) + 1))
      clear hm hx h0
      go_wp2_with fail
      go_roundw
      case rel => exact ⟨j + 1, by omega, by go_num, ⟨by rw [hset.out]; exact hput.out⟩⟩
      case measure => simp [intOf]; omega
    · obtain rfl : j = row.length := by omega
      clear hl1 hj
      go_wp2_with fail
      obtain ⟨W6, hW6⟩ : ∃ W6, W6 = wr := ⟨_, rfl⟩
      rw [← hW6] at hW ⊢
      clear hW6
      go_loopw [9] (fun i wr => ∃ j : Nat, j ≤ bs.length ∧ i = .int .i64 (j : Int) ∧ Aside0 (Wx w4 gat (atP row bs.length row.length) wr)) (fun i _ => bs.length - (intOf i).toNat)
      case atStart => exact ⟨0, by omega, rfl, hW⟩
      case round =>
        obtain ⟨j, hj, rfl, hW2⟩ := hrel
        clear hW
        by_cases hl1 : j < bs.length
        · obtain ⟨gr, e, m0⟩ := hM4.out.cell j (by rw [hlen.out]; exact hl1)
          subst e
          replace m0 := (hW2.out.1.cell (World.block_lt_of_cell? w4 _ m0)).trans m0
          have s0 := hW2.out.2.at_ j (by rw [atP_length]; exact hl1)
          have hpo := atP_pos hRF.out j hl1
          have p0 := add_plain gat j
          have p1 := add_plain gr j
          have q0 : (j : Int) < (bs.length : Int) := by omega
          have q1 : (j : Int) < ((reached bs).length : Int) := by have := hlen.out; omega
          have q2 : j < (reached bs).length := by have := hlen.out; omega
          generalize (atP row bs.length row.length).getD j 0 = z at *
          cases hr : (reached bs).getD j false
          · rw [hr] at m0 hpo
            have hz : z ≤ 0 := by simpa using hpo
            clear hr hpo
            go_upto_region 15 with (fail)
            go_quiet (fail)
            go_wp2_with fail
            go_roundw
            case rel => exact ⟨j + 1, by omega, by go_num, ⟨hW2.out.drewN _⟩⟩
            case measure => simp [intOf]; omega
          · rw [hr] at m0 hpo
            have hz : 0 < z := by simpa using hpo
            clear hr hpo
            go_upto_region 15 with (fail)
            go_quiet (fail)
            go_wp2_with fail
            go_roundw
            case rel => exact ⟨j + 1, by omega, by go_num, ⟨hW2.out.drewN _⟩⟩
            case measure => simp [intOf]; omega
        · obtain rfl : j = bs.length := by omega
          clear hl1 hj
          obtain ⟨a5, e, r0⟩ := Kd.at_int hR4.out 0 (by omega) (by have := hRF.out.pos; omega)
          cases e
          rw [Int.toNat_zero, show rd row 0 = row.getD 0 0 by simp [rd], hRF.out.z, add_plain] at r0
          replace r0 := (hW2.out.1.cell (World.block_lt_of_cell? w4 _ r0)).trans r0
          have q0 : (0 : Int) < (row.length : Int) := by have := hRF.out.pos; omega
          have q1 : 0 < row.length := hRF.out.pos
          go_wp2_with fail
          clear r0
          obtain ⟨W7, hW7⟩ : ∃ W7, W7 = wr := ⟨_, rfl⟩
          rw [← hW7] at hW2 ⊢
          clear hW7
          go_loopw [10] (fun i wr => ∃ j : Nat, j ≤ bs.length ∧ i = .int .i64 (j : Int) ∧ Aside0 (Wx w4 gat (atP row bs.length row.length) wr)) (fun i _ => bs.length - (intOf i).toNat)
          case atStart => exact ⟨0, by omega, rfl, hW2⟩
          case round =>
            obtain ⟨j, hj, rfl, hW3⟩ := hrel
            clear hW2
            by_cases hl1 : j < bs.length
            · obtain ⟨gr, e, m0⟩ := hM4.out.cell j (by rw [hlen.out]; exact hl1)
              subst e
              replace m0 := (hW3.out.1.cell (World.block_lt_of_cell? w4 _ m0)).trans m0
              have s0 := hW3.out.2.at_ j (by rw [atP_length]; exact hl1)
              have p0 := add_plain gat j
              have p1 := add_plain gr j
              have q0 : (j : Int) < (bs.length : Int) := by omega
              have q1 : (j : Int) < ((reached bs).length : Int) := by have := hlen.out; omega
              have q2 : j < (reached bs).length := by have := hlen.out; omega
              have hXr := blk_below hX4.out hW3.out.1
              have v0 : wr.cell? ⟨w.heap.size + 1, 0, none⟩ = some (.string nm) := (blk_cell hXr 0).trans rfl
              have v1 : wr.cell? ⟨w.heap.size + 1, 1, none⟩ = some (.int .i64 pa) := (blk_cell hXr 1).trans rfl
              have v2 : wr.cell? ⟨w.heap.size + 1, 2, none⟩ = some (.int .i64 re) := (blk_cell hXr 2).trans rfl
              have v3 : wr.cell? ⟨w.heap.size + 1, 3, none⟩ = some (.int .i64 sl) := (blk_cell hXr 3).trans rfl
              have v4 : wr.cell? ⟨w.heap.size + 1, 4, none⟩ = some (.slice A8 bs.length c8) := (blk_cell hXr 4).trans rfl
              by_cases hr : (reached bs).getD j false = true
              rotate_left
              · rw [show (reached bs).getD j false = false by simpa using hr] at m0
                clear hr
                go_upto_region 22 with (fail)
                go_quiet (fail)
                go_wp2_with fail
                go_roundw
                case rel => exact ⟨j + 1, by omega, by go_num, ⟨hW3.out.drewN _⟩⟩
                case measure => simp [intOf]; omega
              · obtain ⟨p, hp, hpx, hpa⟩ := atP_at hRF.out j hl1 hr
                rw [hr] at m0
                rw [hpa] at s0
                have hall : Aside0 (∀ x ∈ row, 0 ≤ x ∧ x < bs.length) := ⟨fun x hx => ⟨((hRF.out.mem x).1 hx).1, ((hRF.out.mem x).1 hx).2.1⟩⟩
                have hfl : Aside0 (∀ (q : Int) (W' : World), q ≤ 9223372036854775807 → Below wr.heap.size wr W' → Calls Try.prog 13 #[fv nm pa re sl A8 bs.length c8, .slice (some ⟨g5, 0, none⟩) row.length cap5, .int .i64 q] W' (RetB (.bool (fallsP (ToB bs) row q)) W')) := ⟨fun q W' hq b => falls nm pa re sl A8 (some ⟨g5, 0, none⟩) c8 cap5 bs row q ⟨Kd.C_below hl4.out (below_step hW3.out.1 b)⟩ ⟨Kd.C_below hR4.out (below_step hW3.out.1 b)⟩ hall hq⟩
                obtain ⟨P, hP⟩ : ∃ P : Int, P = (p : Int) + 1 := ⟨_, rfl⟩
                rw [← hP] at s0 hpa
                have hf1 := Aside0.mk (fun W' b => hfl.out P W' (by omega) b)
                replace hP := Aside0.mk hP
                replace hpa := Aside0.mk hpa
                replace hpx := Aside0.mk hpx
                replace hr := Aside0.mk hr
                have mkS : Aside0 (∀ w', Below wr.heap.size wr w' → (Below wr.heap.size wr w' ∧ w'.cell? ⟨w.heap.size + 1, 0, none⟩ = some (.string nm) ∧ w'.cell? ⟨w.heap.size + 1, 1, none⟩ = some (.int .i64 pa) ∧ w'.cell? ⟨w.heap.size + 1, 2, none⟩ = some (.int .i64 re) ∧ w'.cell? ⟨w.heap.size + 1, 3, none⟩ = some (.int .i64 sl) ∧ w'.cell? ⟨w.heap.size + 1, 4, none⟩ = some (.slice A8 bs.length c8) ∧ w'.cell? ⟨gr, j, none⟩ = some (.bool true) ∧ w'.cell? ⟨gat, j, none⟩ = some (.int .i64 P))) := ⟨fun w' b => by
                  exact ⟨b, (b.cell (World.block_lt_of_cell? wr _ v0)).trans v0, (b.cell (World.block_lt_of_cell? wr _ v1)).trans v1, (b.cell (World.block_lt_of_cell? wr _ v2)).trans v2, (b.cell (World.block_lt_of_cell? wr _ v3)).trans v3, (b.cell (World.block_lt_of_cell? wr _ v4)).trans v4, (b.cell (World.block_lt_of_cell? wr _ m0)).trans m0, (b.cell (World.block_lt_of_cell? wr _ s0)).trans s0⟩⟩
                cases hfv : fallsP (ToB bs) row P
                rotate_left
                · rw [hfv] at hf1
                  clear hfv
                  go_upto_region 22 with (fail)
                  go_region_held3 (fun w' => Below wr.heap.size wr w' ∧ w'.cell? ⟨w.heap.size + 1, 0, none⟩ = some (.string nm) ∧ w'.cell? ⟨w.heap.size + 1, 1, none⟩ = some (.int .i64 pa) ∧ w'.cell? ⟨w.heap.size + 1, 2, none⟩ = some (.int .i64 re) ∧ w'.cell? ⟨w.heap.size + 1, 3, none⟩ = some (.int .i64 sl) ∧ w'.cell? ⟨w.heap.size + 1, 4, none⟩ = some (.slice A8 bs.length c8) ∧ w'.cell? ⟨gr, j, none⟩ = some (.bool true) ∧ w'.cell? ⟨gat, j, none⟩ = some (.int .i64 P))
                    (first | exact mkS.out _ (below_drew (Below.refl _ _)) | (go_split_ands; exact mkS.out _ (below_step ‹_› ‹_›)))
                    ((go_at_call 13; (with_reducible refine (hf1.out _ (by first | exact below_drew (Below.refl _ _) | assumption | (go_split_ands; assumption))).mono ?_); rintro e w' ⟨rfl, hb⟩))
                  all_goals
                    go_split_ands
                    go_wp2_with fail
                    go_roundw
                    case rel => exact ⟨j + 1, by omega, by go_num, ⟨hW3.out.below (by assumption)⟩⟩
                    case measure => simp [intOf]; omega
                · rw [hfv] at hf1
                  replace hfv := Aside0.mk hfv
                  go_upto_region 22 with (fail)
                  go_cut [108] (fun s108 wx => s108 = .bool false ∧ Aside0 (Below wr.heap.size wr wx))
                  case first =>
                    go_region_held3 (fun w' => Below wr.heap.size wr w' ∧ w'.cell? ⟨w.heap.size + 1, 0, none⟩ = some (.string nm) ∧ w'.cell? ⟨w.heap.size + 1, 1, none⟩ = some (.int .i64 pa) ∧ w'.cell? ⟨w.heap.size + 1, 2, none⟩ = some (.int .i64 re) ∧ w'.cell? ⟨w.heap.size + 1, 3, none⟩ = some (.int .i64 sl) ∧ w'.cell? ⟨w.heap.size + 1, 4, none⟩ = some (.slice A8 bs.length c8) ∧ w'.cell? ⟨gr, j, none⟩ = some (.bool true) ∧ w'.cell? ⟨gat, j, none⟩ = some (.int .i64 P))
                      (first | exact mkS.out _ (below_drew (Below.refl _ _)) | (go_split_ands; exact mkS.out _ (below_step ‹_› ‹_›)))
                      ((go_at_call 13; (with_reducible refine (hf1.out _ (by first | exact below_drew (Below.refl _ _) | assumption | (go_split_ands; assumption))).mono ?_); rintro e w' ⟨rfl, hb⟩))
                    all_goals
                      go_split_ands
                      go_wp2_with fail
                      go_meet
                      exact ⟨rfl, ⟨by assumption⟩⟩
                  case rest =>
                    obtain ⟨rfl, hB5⟩ := hcut
                    have hW4 := Aside0.mk (hW3.out.below hB5.out)
                    clear hW3 hB5 mkS hf1 hfl v0 v1 v2 v3 v4 m0 s0 hXr
                    obtain ⟨ad, D0, d0', D3, d3', e, e0, e1, e2, e3, l0, g0, l3, g3⟩ := at_T39 hl4.out (j : Int) (by omega) (by omega)
                    cases e
                    simp only [Int.toNat_natCast] at e0 e1 e2 e3
                    have eb : rd_T39 bs (j : Int) = bs.getD j z39 := by simp [rd_T39]
                    rw [eb] at e3 g3
                    have hto : Aside0 (ToB bs j = (bs.getD j z39).f3) := ⟨rfl⟩
                    have hin : Aside0 (∀ t ∈ (bs.getD j z39).f3, t ∈ row) := ⟨hRF.out.into j hl1 hr.out⟩
                    generalize bs.getD j z39 = b at *
                    replace g3 := Aside0.mk g3
                    have hm3 := Kd.C_max g3.out
                    clear e0 e1 e2 l0 g0 l3 eb
                    go_wp2_with fail
                    obtain ⟨W8, hW8⟩ : ∃ W8, W8 = wc := ⟨_, rfl⟩
                    rw [← hW8] at hW4 ⊢
                    clear hW8
                    go_loopw [11] (fun i wq => ∃ q : Nat, q ≤ b.f3.length ∧ i = .int .i64 (q : Int) ∧ Aside0 (Wx w4 gat (atP row bs.length row.length) wq)) (fun i _ => b.f3.length - (intOf i).toNat)
                    case atStart => exact ⟨0, by omega, rfl, hW4⟩
                    case round =>
                      obtain ⟨wq, hwq⟩ : ∃ wq, wq = wr := ⟨_, rfl⟩
                      rw [← hwq] at hrel ⊢
                      clear hwq
                      obtain ⟨q, hq, rfl, hWq⟩ := hrel
                      clear hW4
                      have hXq := blk_below hX4.out hWq.out.1
                      have v0 : wq.cell? ⟨w.heap.size + 1, 0, none⟩ = some (.string nm) := (blk_cell hXq 0).trans rfl
                      have v1 : wq.cell? ⟨w.heap.size + 1, 1, none⟩ = some (.int .i64 pa) := (blk_cell hXq 1).trans rfl
                      have v2 : wq.cell? ⟨w.heap.size + 1, 2, none⟩ = some (.int .i64 re) := (blk_cell hXq 2).trans rfl
                      have v3 : wq.cell? ⟨w.heap.size + 1, 3, none⟩ = some (.int .i64 sl) := (blk_cell hXq 3).trans rfl
                      have v4 : wq.cell? ⟨w.heap.size + 1, 4, none⟩ = some (.slice (some ad) bs.length c8) := (blk_cell hXq 4).trans rfl
                      have c3 := (hWq.out.1.cell (World.block_lt_of_cell? w4 _ e3)).trans e3
                      by_cases hl2 : q < b.f3.length
                      rotate_left
                      · obtain rfl : q = b.f3.length := by omega
                        go_wp2_with fail
                        go_roundw
                        case rel => exact ⟨j + 1, by omega, by go_num, hWq⟩
                        case measure => simp [intOf]; omega
                      obtain ⟨a3, e, r0⟩ := Kd.at_int g3.out (q : Int) (by omega) (by omega)
                      cases e
                      have hyr := hin.out _ (rd_mem b.f3 q hl2)
                      have hyT : rd b.f3 (q : Int) ∈ ToB bs j := by rw [hto.out]; exact rd_mem b.f3 q hl2
                      rw [Int.toNat_natCast] at r0
                      replace r0 := (hWq.out.1.cell (World.block_lt_of_cell? w4 _ r0)).trans r0
                      obtain ⟨q', hq', hqe⟩ := mem_getD hyr
                      have hm := (hRF.out.mem _).1 hyr
                      obtain ⟨t, ht⟩ := Int.eq_ofNat_of_zero_le hm.1
                      rw [ht] at r0 hm hqe hyT
                      have htn : t < bs.length := by omega
                      have hqa := atP_yes hRF.out row.length (Nat.le_refl _) q' hq'
                      rw [hqe, Int.toNat_natCast] at hqa
                      have s0 := hWq.out.2.at_ j (by rw [atP_length]; exact hl1)
                      have s1 := hWq.out.2.at_ t (by rw [atP_length]; exact htn)
                      rw [hpa.out] at s0
                      rw [hqa] at s1
                      obtain ⟨Q, hQ⟩ : ∃ Q : Int, Q = (q' : Int) + 1 := ⟨_, rfl⟩
                      rw [← hQ] at s1
                      have p2 := add_plain gat t
                      have q4 : (t : Int) < (bs.length : Int) := by omega
                      have q5 : (0 : Int) ≤ (t : Int) := by omega
                      have q6 : (q : Int) < (b.f3.length : Int) := by omega
                      have hPb := hP.out
                      obtain ⟨P1, hP1⟩ : ∃ P1 : Int, P1 = P + 1 := ⟨_, rfl⟩
                      have w1' : IntKind.i64.wrap (P + 1) = P1 := by rw [hP1]; exact IntWalk.i64_in _ (by omega)
                      have w2' : IntKind.i64.wrap (Q - 1) = (q' : Int) := by rw [IntWalk.i64_in _ (by omega)]; omega
                      have hf2 : Aside0 (∀ W', Below wq.heap.size wq W' → Calls Try.prog 13 #[fv nm pa re sl (some ad) bs.length c8, .slice (some ⟨g5, 0, none⟩) row.length cap5, .int .i64 (q' : Int)] W' (RetB (.bool (fallsP (ToB bs) row (q' : Int))) W')) := ⟨fun W' b => falls nm pa re sl (some ad) (some ⟨g5, 0, none⟩) c8 cap5 bs row (q' : Int) ⟨Kd.C_below hl4.out (below_step hWq.out.1 b)⟩ ⟨Kd.C_below hR4.out (below_step hWq.out.1 b)⟩ hall (by omega)⟩
                      have hb2 : Aside0 (∀ W', Below wq.heap.size wq W' → Calls Try.prog 14 #[fv nm pa re sl (some ad) bs.length c8, .slice (some ⟨g5, 0, none⟩) row.length cap5, .int .i64 P] W' (RetB (.int .i64 (beginP (ToB bs) row (p + 1) : Int)) W')) := ⟨fun W' b => by
                        have := begin_ nm pa re sl (some ad) (some ⟨g5, 0, none⟩) c8 cap5 bs row (p + 1) (w := W') ⟨Kd.C_below hl4.out (below_step hWq.out.1 b)⟩ ⟨Kd.C_below hR4.out (below_step hWq.out.1 b)⟩ hall (by omega)
                        rwa [show ((p + 1 : Nat) : Int) = P by omega] at this⟩
                      have mkS : Aside0 (∀ w', Below wq.heap.size wq w' → (Below wq.heap.size wq w' ∧ w'.cell? ⟨w.heap.size + 1, 0, none⟩ = some (.string nm) ∧ w'.cell? ⟨w.heap.size + 1, 1, none⟩ = some (.int .i64 pa) ∧ w'.cell? ⟨w.heap.size + 1, 2, none⟩ = some (.int .i64 re) ∧ w'.cell? ⟨w.heap.size + 1, 3, none⟩ = some (.int .i64 sl) ∧ w'.cell? ⟨w.heap.size + 1, 4, none⟩ = some (.slice (some ad) bs.length c8) ∧ w'.cell? ⟨gat, j, none⟩ = some (.int .i64 P) ∧ w'.cell? ⟨gat, t, none⟩ = some (.int .i64 Q))) := ⟨fun w' b => by
                        exact ⟨b, (b.cell (World.block_lt_of_cell? wq _ v0)).trans v0, (b.cell (World.block_lt_of_cell? wq _ v1)).trans v1, (b.cell (World.block_lt_of_cell? wq _ v2)).trans v2, (b.cell (World.block_lt_of_cell? wq _ v3)).trans v3, (b.cell (World.block_lt_of_cell? wq _ v4)).trans v4, (b.cell (World.block_lt_of_cell? wq _ s0)).trans s0, (b.cell (World.block_lt_of_cell? wq _ s1)).trans s1⟩⟩
                      by_cases ht0 : t = 0
                      · subst ht0
                        rw [show ((0 : Nat) : Int) = 0 from rfl] at r0
                        clear hqa hqe hm ht hyr hyT hPb
                        replace hQ := Aside0.mk hQ
                        replace hP1 := Aside0.mk hP1
                        go_upto_region 27 with (fail)
                        go_quiet (fail)
                        go_wp2_with fail
                        go_roundw
                        case rel => exact ⟨q + 1, by omega, by go_num, ⟨hWq.out.drewN _⟩⟩
                        case measure => simp [intOf]; omega
                      have k0 : ((t : Int) != 0) = true := by simp [ht0]
                      by_cases hQP : Q = P1
                      · clear hqa hqe hm ht hyr hyT hPb
                        replace hQ := Aside0.mk hQ
                        subst hQP
                        replace hP1 := Aside0.mk hP1
                        go_upto_region 27 with (fail)
                        go_quiet (fail)
                        go_wp2_with fail
                        go_roundw
                        case rel => exact ⟨q + 1, by omega, by go_num, ⟨hWq.out.drewN _⟩⟩
                        case measure => simp [intOf]; omega
                      have k1 : (Q != P1) = true := by simp [hQP]
                      cases hf3 : fallsP (ToB bs) row (q' : Int)
                      rotate_left
                      · rw [hf3] at hf2
                        clear hqa hqe hm ht hyr hyT hPb hf3
                        replace hQ := Aside0.mk hQ
                        replace hP1 := Aside0.mk hP1
                        go_upto_region 27 with (fail)
                        refine wp_region_held_drew (S := (fun w' => Below wq.heap.size wq w' ∧ w'.cell? ⟨w.heap.size + 1, 0, none⟩ = some (.string nm) ∧ w'.cell? ⟨w.heap.size + 1, 1, none⟩ = some (.int .i64 pa) ∧ w'.cell? ⟨w.heap.size + 1, 2, none⟩ = some (.int .i64 re) ∧ w'.cell? ⟨w.heap.size + 1, 3, none⟩ = some (.int .i64 sl) ∧ w'.cell? ⟨w.heap.size + 1, 4, none⟩ = some (.slice (some ad) bs.length c8) ∧ w'.cell? ⟨gat, j, none⟩ = some (.int .i64 P) ∧ w'.cell? ⟨gat, t, none⟩ = some (.int .i64 Q))) (by kernel_rfl) (mkS.out _ (below_drew (Below.refl _ _))) (fun hHeld => ?_)
                        refine wpAnyH_take (i := 0) (oi := { dst := some 129, op := Op.move (Operand.tmp 12), type := 3, pos := "law.go:99", after := #[], guard := none }) (v := ?v0) rfl (by kernel_rfl) (by kernel_rfl) (by kernel_rfl) (fun _ _ _ h => h) (Or.inl ⟨by rfl, ?y0⟩) (by assumption) ?_
                        case y0 => (intro w hSw; (try dsimp only at hSw); go_simp; (try with_reducible rfl))
                        try simp only [Act.put, List.setIfInBounds_toArray, List.set_cons_zero, List.set_cons_succ]
                        refine wpAnyH_take (i := 1) (oi := { dst := some 130, op := Op.binOp BinOp.neq 3 (Operand.tmp 129) (Operand.const (Value.int IntKind.i64 0)) 3, type := 4, pos := "law.go:99", after := #[{ on := 0, ground := Ground.data }], guard := none }) (v := ?v1) rfl (by kernel_rfl) (by kernel_rfl) (by kernel_rfl) (fun _ _ _ h => h) (Or.inl ⟨by rfl, ?y1⟩) (by assumption) ?_
                        case y1 => (intro w hSw; (try dsimp only at hSw); go_simp; (try with_reducible rfl))
                        try simp only [Act.put, List.setIfInBounds_toArray, List.set_cons_zero, List.set_cons_succ]
                        refine wpAnyH_take (i := 2) (oi := { dst := some 131, op := Op.move (Operand.tmp 130), type := 4, pos := "law.go:99", after := #[{ on := 1, ground := Ground.data }], guard := none }) (v := ?v2) rfl (by kernel_rfl) (by kernel_rfl) (by kernel_rfl) (fun _ _ _ h => h) (Or.inl ⟨by rfl, ?y2⟩) (by assumption) ?_
                        case y2 => (intro w hSw; (try dsimp only at hSw); go_simp; (try with_reducible rfl))
                        try simp only [Act.put, List.setIfInBounds_toArray, List.set_cons_zero, List.set_cons_succ]
                        refine wpAnyH_take (i := 3) (oi := { dst := some 132, op := Op.move (Operand.tmp 7), type := 29, pos := "law.go:99", after := #[{ on := 2, ground := Ground.guard }], guard := some (2, true) }) (v := ?v3) rfl (by kernel_rfl) (by kernel_rfl) (by kernel_rfl) (fun _ _ _ h => h) (Or.inl ⟨by rfl, ?y3⟩) (by assumption) ?_
                        case y3 => (intro w hSw; (try dsimp only at hSw); go_simp; (try with_reducible rfl))
                        try simp only [Act.put, List.setIfInBounds_toArray, List.set_cons_zero, List.set_cons_succ]
                        refine wpAnyH_take (i := 4) (oi := { dst := some 133, op := Op.move (Operand.tmp 12), type := 3, pos := "law.go:99", after := #[{ on := 2, ground := Ground.guard }], guard := some (2, true) }) (v := ?v4) rfl (by kernel_rfl) (by kernel_rfl) (by kernel_rfl) (fun _ _ _ h => h) (Or.inl ⟨by rfl, ?y4⟩) (by assumption) ?_
                        case y4 => (intro w hSw; (try dsimp only at hSw); go_simp; (try with_reducible rfl))
                        try simp only [Act.put, List.setIfInBounds_toArray, List.set_cons_zero, List.set_cons_succ]
                        refine wpAnyH_take (i := 5) (oi := { dst := some 134, op := Op.indexAddr 29 (Operand.tmp 132) (Operand.tmp 133), type := 0, pos := "law.go:99", after := #[{ on := 3, ground := Ground.data }, { on := 4, ground := Ground.data }, { on := 2, ground := Ground.guard }], guard := some (2, true) }) (v := ?v5) rfl (by kernel_rfl) (by kernel_rfl) (by kernel_rfl) (fun _ _ _ h => h) (Or.inl ⟨by rfl, ?y5⟩) (by assumption) ?_
                        case y5 => (intro w hSw; (try dsimp only at hSw); go_simp; (try with_reducible rfl))
                        try simp only [Act.put, List.setIfInBounds_toArray, List.set_cons_zero, List.set_cons_succ]
                        refine wpAnyH_take (i := 6) (oi := { dst := some 135, op := Op.load 3 (Operand.tmp 134), type := 3, pos := "law.go:99", after := #[{ on := 5, ground := Ground.data }, { on := 2, ground := Ground.guard }], guard := some (2, true) }) (v := ?v6) rfl (by kernel_rfl) (by kernel_rfl) (by kernel_rfl) (fun _ _ _ h => h) (Or.inl ⟨by rfl, ?y6⟩) (by assumption) ?_
                        case y6 => (intro w hSw; (try dsimp only at hSw); go_simp; (try with_reducible rfl))
                        try simp only [Act.put, List.setIfInBounds_toArray, List.set_cons_zero, List.set_cons_succ]
                        refine wpAnyH_take (i := 7) (oi := { dst := some 136, op := Op.move (Operand.tmp 7), type := 29, pos := "law.go:99", after := #[{ on := 2, ground := Ground.guard }], guard := some (2, true) }) (v := ?v7) rfl (by kernel_rfl) (by kernel_rfl) (by kernel_rfl) (fun _ _ _ h => h) (Or.inl ⟨by rfl, ?y7⟩) (by assumption) ?_
                        case y7 => (intro w hSw; (try dsimp only at hSw); go_simp; (try with_reducible rfl))
                        try simp only [Act.put, List.setIfInBounds_toArray, List.set_cons_zero, List.set_cons_succ]
                        refine wpAnyH_take (i := 8) (oi := { dst := some 137, op := Op.move (Operand.tmp 10), type := 3, pos := "law.go:99", after := #[{ on := 2, ground := Ground.guard }], guard := some (2, true) }) (v := ?v8) rfl (by kernel_rfl) (by kernel_rfl) (by kernel_rfl) (fun _ _ _ h => h) (Or.inl ⟨by rfl, ?y8⟩) (by assumption) ?_
                        case y8 => (intro w hSw; (try dsimp only at hSw); go_simp; (try with_reducible rfl))
                        try simp only [Act.put, List.setIfInBounds_toArray, List.set_cons_zero, List.set_cons_succ]
                        refine wpAnyH_take (i := 9) (oi := { dst := some 138, op := Op.indexAddr 29 (Operand.tmp 136) (Operand.tmp 137), type := 0, pos := "law.go:99", after := #[{ on := 7, ground := Ground.data }, { on := 8, ground := Ground.data }, { on := 2, ground := Ground.guard }], guard := some (2, true) }) (v := ?v9) rfl (by kernel_rfl) (by kernel_rfl) (by kernel_rfl) (fun _ _ _ h => h) (Or.inl ⟨by rfl, ?y9⟩) (by assumption) ?_
                        case y9 => (intro w hSw; (try dsimp only at hSw); go_simp; (try with_reducible rfl))
                        try simp only [Act.put, List.setIfInBounds_toArray, List.set_cons_zero, List.set_cons_succ]
                        refine wpAnyH_take (i := 10) (oi := { dst := some 139, op := Op.load 3 (Operand.tmp 138), type := 3, pos := "law.go:99", after := #[{ on := 9, ground := Ground.data }, { on := 2, ground := Ground.guard }], guard := some (2, true) }) (v := ?v10) rfl (by kernel_rfl) (by kernel_rfl) (by kernel_rfl) (fun _ _ _ h => h) (Or.inl ⟨by rfl, ?y10⟩) (by assumption) ?_
                        case y10 => (intro w hSw; (try dsimp only at hSw); go_simp; (try with_reducible rfl))
                        try simp only [Act.put, List.setIfInBounds_toArray, List.set_cons_zero, List.set_cons_succ]
                        refine wpAnyH_take (i := 11) (oi := { dst := some 140, op := Op.binOp BinOp.add 3 (Operand.tmp 139) (Operand.const (Value.int IntKind.i64 1)) 3, type := 3, pos := "law.go:99", after := #[{ on := 10, ground := Ground.data }, { on := 2, ground := Ground.guard }], guard := some (2, true) }) (v := ?v11) rfl (by kernel_rfl) (by kernel_rfl) (by kernel_rfl) (fun _ _ _ h => h) (Or.inl ⟨by rfl, ?y11⟩) (by assumption) ?_
                        case y11 => (intro w hSw; (try dsimp only at hSw); go_simp; (try with_reducible rfl))
                        try simp only [Act.put, List.setIfInBounds_toArray, List.set_cons_zero, List.set_cons_succ]
                        refine wpAnyH_take (i := 12) (oi := { dst := some 141, op := Op.binOp BinOp.neq 3 (Operand.tmp 135) (Operand.tmp 140) 3, type := 4, pos := "law.go:99", after := #[{ on := 6, ground := Ground.data }, { on := 11, ground := Ground.data }, { on := 2, ground := Ground.guard }], guard := some (2, true) }) (v := ?v12) rfl (by kernel_rfl) (by kernel_rfl) (by kernel_rfl) (fun _ _ _ h => h) (Or.inl ⟨by rfl, ?y12⟩) (by assumption) ?_
                        case y12 => (intro w hSw; (try dsimp only at hSw); go_simp; (try with_reducible rfl))
                        try simp only [Act.put, List.setIfInBounds_toArray, List.set_cons_zero, List.set_cons_succ]
                        refine wpAnyH_take (i := 13) (oi := { dst := some 142, op := Op.pick (Operand.tmp 131) (Operand.tmp 141) (Operand.const (Value.bool false)), type := 4, pos := "law.go:99", after := #[{ on := 2, ground := Ground.data }, { on := 12, ground := Ground.data }], guard := none }) (v := ?v13) rfl (by kernel_rfl) (by kernel_rfl) (by kernel_rfl) (fun _ _ _ h => h) (Or.inl ⟨by rfl, ?y13⟩) (by assumption) ?_
                        case y13 => (intro w hSw; (try dsimp only at hSw); go_simp; (try with_reducible rfl))
                        try simp only [Act.put, List.setIfInBounds_toArray, List.set_cons_zero, List.set_cons_succ]
                        refine wpAnyH_take (i := 14) (oi := { dst := some 143, op := Op.move (Operand.tmp 142), type := 4, pos := "law.go:99", after := #[{ on := 13, ground := Ground.data }, { on := 2, ground := Ground.chain }], guard := none }) (v := ?v14) rfl (by kernel_rfl) (by kernel_rfl) (by kernel_rfl) (fun _ _ _ h => h) (Or.inl ⟨by rfl, ?y14⟩) (by assumption) ?_
                        case y14 => (intro w hSw; (try dsimp only at hSw); go_simp; (try with_reducible rfl))
                        try simp only [Act.put, List.setIfInBounds_toArray, List.set_cons_zero, List.set_cons_succ]
                        refine wpAnyH_take (i := 15) (oi := { dst := some 144, op := Op.load 28 (Operand.tmp 3), type := 28, pos := "law.go:99", after := #[{ on := 14, ground := Ground.guard }], guard := some (14, true) }) (v := ?v15) rfl (by kernel_rfl) (by kernel_rfl) (by kernel_rfl) (fun _ _ _ h => h) (Or.inl ⟨by rfl, ?y15⟩) (by assumption) ?_
                        case y15 => (intro w hSw; (try dsimp only at hSw); go_simp; (try with_reducible rfl))
                        try simp only [Act.put, List.setIfInBounds_toArray, List.set_cons_zero, List.set_cons_succ]
                        refine wpAnyH_take (i := 16) (oi := { dst := some 145, op := Op.move (Operand.tmp 5), type := 29, pos := "law.go:99", after := #[{ on := 14, ground := Ground.guard }], guard := some (14, true) }) (v := ?v16) rfl (by kernel_rfl) (by kernel_rfl) (by kernel_rfl) (fun _ _ _ h => h) (Or.inl ⟨by rfl, ?y16⟩) (by assumption) ?_
                        case y16 => (intro w hSw; (try dsimp only at hSw); go_simp; (try with_reducible rfl))
                        try simp only [Act.put, List.setIfInBounds_toArray, List.set_cons_zero, List.set_cons_succ]
                        refine wpAnyH_take (i := 17) (oi := { dst := some 146, op := Op.move (Operand.tmp 7), type := 29, pos := "law.go:99", after := #[{ on := 14, ground := Ground.guard }], guard := some (14, true) }) (v := ?v17) rfl (by kernel_rfl) (by kernel_rfl) (by kernel_rfl) (fun _ _ _ h => h) (Or.inl ⟨by rfl, ?y17⟩) (by assumption) ?_
                        case y17 => (intro w hSw; (try dsimp only at hSw); go_simp; (try with_reducible rfl))
                        try simp only [Act.put, List.setIfInBounds_toArray, List.set_cons_zero, List.set_cons_succ]
                        refine wpAnyH_take (i := 18) (oi := { dst := some 147, op := Op.move (Operand.tmp 12), type := 3, pos := "law.go:99", after := #[{ on := 14, ground := Ground.guard }], guard := some (14, true) }) (v := ?v18) rfl (by kernel_rfl) (by kernel_rfl) (by kernel_rfl) (fun _ _ _ h => h) (Or.inl ⟨by rfl, ?y18⟩) (by assumption) ?_
                        case y18 => (intro w hSw; (try dsimp only at hSw); go_simp; (try with_reducible rfl))
                        try simp only [Act.put, List.setIfInBounds_toArray, List.set_cons_zero, List.set_cons_succ]
                        refine wpAnyH_take (i := 19) (oi := { dst := some 148, op := Op.indexAddr 29 (Operand.tmp 146) (Operand.tmp 147), type := 0, pos := "law.go:99", after := #[{ on := 17, ground := Ground.data }, { on := 18, ground := Ground.data }, { on := 14, ground := Ground.guard }], guard := some (14, true) }) (v := ?v19) rfl (by kernel_rfl) (by kernel_rfl) (by kernel_rfl) (fun _ _ _ h => h) (Or.inl ⟨by rfl, ?y19⟩) (by assumption) ?_
                        case y19 => (intro w hSw; (try dsimp only at hSw); go_simp; (try with_reducible rfl))
                        try simp only [Act.put, List.setIfInBounds_toArray, List.set_cons_zero, List.set_cons_succ]
                        refine wpAnyH_take (i := 20) (oi := { dst := some 149, op := Op.load 3 (Operand.tmp 148), type := 3, pos := "law.go:99", after := #[{ on := 19, ground := Ground.data }, { on := 14, ground := Ground.guard }], guard := some (14, true) }) (v := ?v20) rfl (by kernel_rfl) (by kernel_rfl) (by kernel_rfl) (fun _ _ _ h => h) (Or.inl ⟨by rfl, ?y20⟩) (by assumption) ?_
                        case y20 => (intro w hSw; (try dsimp only at hSw); go_simp; (try with_reducible rfl))
                        try simp only [Act.put, List.setIfInBounds_toArray, List.set_cons_zero, List.set_cons_succ]
                        refine wpAnyH_take (i := 21) (oi := { dst := some 150, op := Op.binOp BinOp.sub 3 (Operand.tmp 149) (Operand.const (Value.int IntKind.i64 1)) 3, type := 3, pos := "law.go:99", after := #[{ on := 20, ground := Ground.data }, { on := 14, ground := Ground.guard }], guard := some (14, true) }) (v := ?v21) rfl (by kernel_rfl) (by kernel_rfl) (by kernel_rfl) (fun _ _ _ h => h) (Or.inl ⟨by rfl, ?y21⟩) (by assumption) ?_
                        case y21 => (intro w hSw; (try dsimp only at hSw); go_simp; (try with_reducible rfl))
                        try simp only [Act.put, List.setIfInBounds_toArray, List.set_cons_zero, List.set_cons_succ]
                        refine wpAnyH_ready (rs := [22]) (by kernel_rfl) (by simp) ?_
                        refine AllReadyH.cons (o := { dst := some 151, op := Op.call { callee := Callee.value (Operand.func 13), args := #[Operand.tmp 144, Operand.tmp 145, Operand.tmp 150], argTypes := #[28, 29, 3] }, type := 4, pos := "law.go:99", after := #[{ on := 15, ground := Ground.data }, { on := 16, ground := Ground.data }, { on := 21, ground := Ground.data }, { on := 14, ground := Ground.chain }, { on := 14, ground := Ground.guard }], guard := some (14, true) }) rfl (fun K hK => ?_) AllReadyH.nil
                        go_simp
                        go_at_call 13
                        (with_reducible refine (hf2.out _ (below_drew (Below.refl _ _))).mono ?_)
                        rintro e w' ⟨rfl, hb⟩
                        have hbq := below_step (below_drew (Below.refl wq.heap.size wq)) hb
                        refine hK.out _ _ (mkS.out _ hbq) (fun hHeld2 => ?_)
                        clear hK hHeld
                        try simp only [Act.put, List.setIfInBounds_toArray, List.set_cons_zero, List.set_cons_succ]
                        refine wpAnyH_take (i := 23) (oi := { dst := some 152, op := Op.unOp UnOp.not 4 (Operand.tmp 151), type := 4, pos := "law.go:99", after := #[{ on := 22, ground := Ground.data }, { on := 14, ground := Ground.guard }], guard := some (14, true) }) (v := ?v23) rfl (by kernel_rfl) (by kernel_rfl) (by kernel_rfl) (fun _ _ _ h => h) (Or.inl ⟨by rfl, ?y23⟩) (by assumption) ?_
                        case y23 => (intro w hSw; (try dsimp only at hSw); go_simp; (try with_reducible rfl))
                        try simp only [Act.put, List.setIfInBounds_toArray, List.set_cons_zero, List.set_cons_succ]
                        refine wpAnyH_take (i := 24) (oi := { dst := some 153, op := Op.pick (Operand.tmp 143) (Operand.tmp 152) (Operand.const (Value.bool false)), type := 4, pos := "law.go:99", after := #[{ on := 14, ground := Ground.data }, { on := 23, ground := Ground.data }], guard := none }) (v := ?v24) rfl (by kernel_rfl) (by kernel_rfl) (by kernel_rfl) (fun _ _ _ h => h) (Or.inl ⟨by rfl, ?y24⟩) (by assumption) ?_
                        case y24 => (intro w hSw; (try dsimp only at hSw); go_simp; (try with_reducible rfl))
                        try simp only [Act.put, List.setIfInBounds_toArray, List.set_cons_zero, List.set_cons_succ]
                        refine wpAnyH_take (i := 25) (oi := { dst := some 154, op := Op.move (Operand.tmp 153), type := 4, pos := "law.go:99", after := #[{ on := 24, ground := Ground.data }, { on := 22, ground := Ground.chain }], guard := none }) (v := ?v25) rfl (by kernel_rfl) (by kernel_rfl) (by kernel_rfl) (fun _ _ _ h => h) (Or.inl ⟨by rfl, ?y25⟩) (by assumption) ?_
                        case y25 => (intro w hSw; (try dsimp only at hSw); go_simp; (try with_reducible rfl))
                        try simp only [Act.put, List.setIfInBounds_toArray, List.set_cons_zero, List.set_cons_succ]
                        refine wpAnyH_take (i := 26) (oi := { dst := some 155, op := Op.load 28 (Operand.tmp 3), type := 28, pos := "law.go:99", after := #[{ on := 25, ground := Ground.guard }], guard := some (25, true) }) (v := undef) rfl (by kernel_rfl) (by kernel_rfl) (by kernel_rfl) (fun _ _ _ h => h) (Or.inr ⟨by rfl, rfl⟩) (by assumption) ?_
                        try simp only [Act.put, List.setIfInBounds_toArray, List.set_cons_zero, List.set_cons_succ]
                        refine wpAnyH_take (i := 27) (oi := { dst := some 156, op := Op.move (Operand.tmp 5), type := 29, pos := "law.go:99", after := #[{ on := 25, ground := Ground.guard }], guard := some (25, true) }) (v := undef) rfl (by kernel_rfl) (by kernel_rfl) (by kernel_rfl) (fun _ _ _ h => h) (Or.inr ⟨by rfl, rfl⟩) (by assumption) ?_
                        try simp only [Act.put, List.setIfInBounds_toArray, List.set_cons_zero, List.set_cons_succ]
                        refine wpAnyH_take (i := 28) (oi := { dst := some 157, op := Op.move (Operand.tmp 7), type := 29, pos := "law.go:99", after := #[{ on := 25, ground := Ground.guard }], guard := some (25, true) }) (v := undef) rfl (by kernel_rfl) (by kernel_rfl) (by kernel_rfl) (fun _ _ _ h => h) (Or.inr ⟨by rfl, rfl⟩) (by assumption) ?_
                        try simp only [Act.put, List.setIfInBounds_toArray, List.set_cons_zero, List.set_cons_succ]
                        refine wpAnyH_take (i := 29) (oi := { dst := some 158, op := Op.move (Operand.tmp 10), type := 3, pos := "law.go:99", after := #[{ on := 25, ground := Ground.guard }], guard := some (25, true) }) (v := undef) rfl (by kernel_rfl) (by kernel_rfl) (by kernel_rfl) (fun _ _ _ h => h) (Or.inr ⟨by rfl, rfl⟩) (by assumption) ?_
                        try simp only [Act.put, List.setIfInBounds_toArray, List.set_cons_zero, List.set_cons_succ]
                        refine wpAnyH_take (i := 30) (oi := { dst := some 159, op := Op.indexAddr 29 (Operand.tmp 157) (Operand.tmp 158), type := 0, pos := "law.go:99", after := #[{ on := 28, ground := Ground.data }, { on := 29, ground := Ground.data }, { on := 25, ground := Ground.guard }], guard := some (25, true) }) (v := undef) rfl (by kernel_rfl) (by kernel_rfl) (by kernel_rfl) (fun _ _ _ h => h) (Or.inr ⟨by rfl, rfl⟩) (by assumption) ?_
                        try simp only [Act.put, List.setIfInBounds_toArray, List.set_cons_zero, List.set_cons_succ]
                        refine wpAnyH_take (i := 31) (oi := { dst := some 160, op := Op.load 3 (Operand.tmp 159), type := 3, pos := "law.go:99", after := #[{ on := 30, ground := Ground.data }, { on := 25, ground := Ground.guard }], guard := some (25, true) }) (v := undef) rfl (by kernel_rfl) (by kernel_rfl) (by kernel_rfl) (fun _ _ _ h => h) (Or.inr ⟨by rfl, rfl⟩) (by assumption) ?_
                        try simp only [Act.put, List.setIfInBounds_toArray, List.set_cons_zero, List.set_cons_succ]
                        refine wpAnyH_take (i := 32) (oi := { dst := some 161, op := Op.call { callee := Callee.value (Operand.func 14), args := #[Operand.tmp 155, Operand.tmp 156, Operand.tmp 160], argTypes := #[28, 29, 3] }, type := 3, pos := "law.go:99", after := #[{ on := 26, ground := Ground.data }, { on := 27, ground := Ground.data }, { on := 31, ground := Ground.data }, { on := 25, ground := Ground.chain }, { on := 25, ground := Ground.guard }], guard := some (25, true) }) (v := undef) rfl (by kernel_rfl) (by kernel_rfl) (by kernel_rfl) (fun _ _ _ h => h) (Or.inr ⟨by rfl, rfl⟩) (by assumption) ?_
                        try simp only [Act.put, List.setIfInBounds_toArray, List.set_cons_zero, List.set_cons_succ]
                        refine wpAnyH_take (i := 33) (oi := { dst := some 162, op := Op.move (Operand.tmp 7), type := 29, pos := "law.go:99", after := #[{ on := 25, ground := Ground.guard }], guard := some (25, true) }) (v := undef) rfl (by kernel_rfl) (by kernel_rfl) (by kernel_rfl) (fun _ _ _ h => h) (Or.inr ⟨by rfl, rfl⟩) (by assumption) ?_
                        try simp only [Act.put, List.setIfInBounds_toArray, List.set_cons_zero, List.set_cons_succ]
                        refine wpAnyH_take (i := 34) (oi := { dst := some 163, op := Op.move (Operand.tmp 12), type := 3, pos := "law.go:99", after := #[{ on := 25, ground := Ground.guard }], guard := some (25, true) }) (v := undef) rfl (by kernel_rfl) (by kernel_rfl) (by kernel_rfl) (fun _ _ _ h => h) (Or.inr ⟨by rfl, rfl⟩) (by assumption) ?_
                        try simp only [Act.put, List.setIfInBounds_toArray, List.set_cons_zero, List.set_cons_succ]
                        refine wpAnyH_take (i := 35) (oi := { dst := some 164, op := Op.indexAddr 29 (Operand.tmp 162) (Operand.tmp 163), type := 0, pos := "law.go:99", after := #[{ on := 33, ground := Ground.data }, { on := 34, ground := Ground.data }, { on := 25, ground := Ground.guard }], guard := some (25, true) }) (v := undef) rfl (by kernel_rfl) (by kernel_rfl) (by kernel_rfl) (fun _ _ _ h => h) (Or.inr ⟨by rfl, rfl⟩) (by assumption) ?_
                        try simp only [Act.put, List.setIfInBounds_toArray, List.set_cons_zero, List.set_cons_succ]
                        refine wpAnyH_take (i := 36) (oi := { dst := some 165, op := Op.load 3 (Operand.tmp 164), type := 3, pos := "law.go:99", after := #[{ on := 35, ground := Ground.data }, { on := 25, ground := Ground.guard }], guard := some (25, true) }) (v := undef) rfl (by kernel_rfl) (by kernel_rfl) (by kernel_rfl) (fun _ _ _ h => h) (Or.inr ⟨by rfl, rfl⟩) (by assumption) ?_
                        try simp only [Act.put, List.setIfInBounds_toArray, List.set_cons_zero, List.set_cons_succ]
                        refine wpAnyH_take (i := 37) (oi := { dst := some 166, op := Op.binOp BinOp.neq 3 (Operand.tmp 161) (Operand.tmp 165) 3, type := 4, pos := "law.go:99", after := #[{ on := 32, ground := Ground.data }, { on := 36, ground := Ground.data }, { on := 25, ground := Ground.guard }], guard := some (25, true) }) (v := undef) rfl (by kernel_rfl) (by kernel_rfl) (by kernel_rfl) (fun _ _ _ h => h) (Or.inr ⟨by rfl, rfl⟩) (by assumption) ?_
                        try simp only [Act.put, List.setIfInBounds_toArray, List.set_cons_zero, List.set_cons_succ]
                        refine wpAnyH_take (i := 38) (oi := { dst := some 167, op := Op.pick (Operand.tmp 154) (Operand.tmp 166) (Operand.const (Value.bool false)), type := 4, pos := "law.go:99", after := #[{ on := 25, ground := Ground.data }, { on := 37, ground := Ground.data }], guard := none }) (v := ?v38) rfl (by kernel_rfl) (by kernel_rfl) (by kernel_rfl) (fun _ _ _ h => h) (Or.inl ⟨by rfl, ?y38⟩) (by assumption) ?_
                        case y38 => (intro w hSw; (try dsimp only at hSw); go_simp; (try with_reducible rfl))
                        try simp only [Act.put, List.setIfInBounds_toArray, List.set_cons_zero, List.set_cons_succ]
                        refine wpAnyH_done (by kernel_rfl) ?_ _
                        go_wp2_with fail
                        go_roundw
                        case rel => exact ⟨q + 1, by omega, by go_num, ⟨hWq.out.below hbq⟩⟩
                        case measure => simp [intOf]; omega
                      · rw [hf3] at hf2
                        have hbe : beginP (ToB bs) row (p + 1) = q' + 1 := hRF.out.ends p q' hp hq' (by rw [← hP.out]; exact hfv.out) (by rw [hqe, hpx.out, Int.toNat_natCast]; exact hyT) (by rw [hqe]; omega) hf3
                        rw [hbe, show ((q' + 1 : Nat) : Int) = Q by omega] at hb2
                        clear hqa hqe hm ht hyr hyT hPb hf3 hbe
                        replace hQ := Aside0.mk hQ
                        replace hP1 := Aside0.mk hP1
                        go_upto_region 27 with (fail)
                        go_region_held3 (fun w' => Below wq.heap.size wq w' ∧ w'.cell? ⟨w.heap.size + 1, 0, none⟩ = some (.string nm) ∧ w'.cell? ⟨w.heap.size + 1, 1, none⟩ = some (.int .i64 pa) ∧ w'.cell? ⟨w.heap.size + 1, 2, none⟩ = some (.int .i64 re) ∧ w'.cell? ⟨w.heap.size + 1, 3, none⟩ = some (.int .i64 sl) ∧ w'.cell? ⟨w.heap.size + 1, 4, none⟩ = some (.slice (some ad) bs.length c8) ∧ w'.cell? ⟨gat, j, none⟩ = some (.int .i64 P) ∧ w'.cell? ⟨gat, t, none⟩ = some (.int .i64 Q))
                          (first | exact mkS.out _ (below_drew (Below.refl _ _)) | (go_split_ands; exact mkS.out _ (below_step ‹_› ‹_›)))
                          ((first | (go_at_call 13; (with_reducible refine (hf2.out _ (by first | exact below_drew (Below.refl _ _) | assumption | (go_split_ands; assumption))).mono ?_); rintro e w' ⟨rfl, hb⟩) | (go_at_call 14; (with_reducible refine (hb2.out _ (by first | exact below_drew (Below.refl _ _) | assumption | (go_split_ands; assumption))).mono ?_); rintro e w' ⟨rfl, hb⟩)))
                        all_goals
                          go_split_ands
                          go_wp2_with fail
                          go_roundw
                          case rel => exact ⟨q + 1, by omega, by go_num, ⟨hWq.out.below (by assumption)⟩⟩
                          case measure => simp [intOf]; omega
            · obtain rfl : j = bs.length := by omega
              go_wp2_with ((with_reducible refine (haw.out _).mono ?_); rintro e w5 ⟨rfl, hb5⟩; have hB5 := Aside0.mk (below_step (below_step hB4.out hW3.out.1) hb5); clear hb5)
              go_ret
              exact ⟨rfl, hB5.out⟩
end Go.Proofs.Ytidhkicpandmbaa.RwB
