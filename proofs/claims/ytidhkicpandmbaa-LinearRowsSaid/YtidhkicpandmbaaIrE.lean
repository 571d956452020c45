/- The program's Preds. -/
import Derived.Test.YtidhkicpandmbaaIrD
import Derived.Deep.DeepCutAuto
namespace Go.Proofs.Ytidhkicpandmbaa.IrA
open Go.RowKit Go.Proofs.YtidhkicpandmbaaW.PrintWords Go.Proofs.YtidhkicpandmbaaW.PrintLast Go.Proofs.YtidhkicpandmbaaW.PrintMore Go.Proofs.Ytidhkicpandmbaa.GF
set_option linter.unusedVariables false
set_option linter.unusedSimpArgs false

theorem info41' : (Try.prog.info? 29).map (fun i => (i.zero, i.size, i.bytes)) = some (some (.slice none 0 0), 1, 24) := by kernel_rfl
theorem info3' : (Try.prog.info? 3).map (fun i => (i.zero, i.size, i.bytes)) = some (some (.int .i64 0), 1, 8) := by kernel_rfl
/-- A function's values. -/
abbrev fv (nm : ByteArray) (pa re sl : Int) (A : Option Addr) (n c : Nat) : Value := .agg #[.string nm, .int .i64 pa, .int .i64 re, .int .i64 sl, .slice A n c]
abbrev fb (nm : ByteArray) (pa re sl : Int) (A : Option Addr) (n c : Nat) : Obj := .cells #[.string nm, .int .i64 pa, .int .i64 re, .int .i64 sl, .slice A n c] 28 (0, 0)
/-- Lists of lists are told, made above w. -/
def RetL (L : List (List Int)) (w : World) (e : Ending) (w' : World) : Prop := ∃ v, e = .returned v ∧ LL w' w.heap.size v L ∧ Below w.heap.size w w'

set_option maxHeartbeats 16000000 in
set_option maxRecDepth 100000 in
theorem preds {w : World} (nm : ByteArray) (pa re sl : Int) (A : Option Addr) (c : Nat) (bs : List S39) (hl : Aside0 (Kd.C k39 w A bs.length bs)) (hn : bs.length ≤ 2199023255552) :
    Calls Try.prog 51 #[fv nm pa re sl A bs.length c] w (RetL (predsP bs) w) := by
  have hX : Aside0 ((w.alloc (fb nm pa re sl A bs.length c)).heap[w.heap.size]? = some (fb nm pa re sl A bs.length c)) := ⟨blk_new w _⟩
  have hB : Aside0 (Below w.heap.size w (w.alloc (fb nm pa re sl A bs.length c))) := ⟨below_alloc (Below.refl _ _) _⟩
  go_enter Try.func51, Try.ntmps51
  go_wp2_with ((with_reducible refine gate_dst (N := 11) rfl ?_); refine Kd.S_make KL (w0 := w.alloc (fb nm pa re sl A bs.length c)) _ 29 rfl (N := 11) rfl 61 _ _ rfl (bs.length : Int) rfl rfl Try.underlying61 (.slice none 0 0) 24 info41' rfl (by decide) (by omega) [] (ok := fun _ => True) (okp := fun _ => True) ⟨_, rfl, Kd.R_nil _ _ _ _ _⟩ (fun _ h => h) trivial (by omega) (by omega) (Below.refl _ _) (Nat.le_refl _) ?_; intro v1 w1 hS hb hg hat; have hX1 := Aside0.mk (blk_grown hX.out hg (by simp)); have hB1 := Aside0.mk (below_step hB.out hb); have hS1 : Aside0 (LL w1 w.heap.size v1 (predsTo bs 0)) := ⟨Kd.S_lower (by rw [Int.toNat_natCast] at hS; exact hS) hB.out.size⟩; obtain ⟨AO, cO, eO⟩ := Kd.S_slice hS; rw [Int.toNat_natCast, List.length_replicate] at eO; subst eO; have k4 : w1.cell? ⟨w.heap.size, 4, none⟩ = some (.slice A bs.length c) := (blk_cell hX1.out 4).trans rfl; clear hS hb hg hat hX hB)
  go_loopw [15] (fun i wr => ∃ j : Nat, j ≤ bs.length ∧ i = .int .i64 j ∧ Aside0 (LL wr w.heap.size (.slice AO bs.length cO) (predsTo bs j)) ∧ Aside0 (wr.heap[w.heap.size]? = some (fb nm pa re sl A bs.length c)) ∧ Aside0 (Below w.heap.size w wr)) (fun i _ => bs.length - (intOf i).toNat)
  case atStart => exact ⟨0, by omega, rfl, hS1, hX1, hB1⟩
  case round =>
    obtain ⟨j, hj, rfl, hS2, hX2, hB2⟩ := hrel
    clear hS1 hX1 hB1
    by_cases hlt : j < bs.length
    · obtain ⟨ad, A0, c0, A3, c3, e, d0, d1, d2, d3, l0, g0, l3, g3⟩ := at_T39 hl.out (j : Int) (by omega) (by omega)
      cases e
      simp only [Int.toNat_natCast] at d0 d1 d2 d3
      replace d0 := (hB2.out.cell (World.block_lt_of_cell? w _ d0)).trans d0
      replace d1 := (hB2.out.cell (World.block_lt_of_cell? w _ d1)).trans d1
      replace d2 := (hB2.out.cell (World.block_lt_of_cell? w _ d2)).trans d2
      replace d3 := (hB2.out.cell (World.block_lt_of_cell? w _ d3)).trans d3
      have g3 := Aside0.mk g3
      have hnext : Aside0 (predsTo bs (j + 1) = rowP (predsTo bs j) (j : Int) (rd_T39 bs j).f3) := ⟨rfl⟩
      have hin := Aside0.mk (in0_preds bs j).one
      have hLen := predsTo_length bs j
      have hLen := Aside0.mk hLen
      have hmx3 := Kd.C_max g3.out
      generalize rd_T39 bs (j : Int) = b at *
      generalize hL0 : predsTo bs j = L0 at *
      have hL0 := Aside0.mk hL0
      clear l0 g0 l3
      have hB3 := Aside0.mk (below_step hB2.out (below_alloc (Below.refl wr.heap.size wr) (bb b A0 A3 c0 c3)))
      have hX3 := Aside0.mk (blk_alloc hX2.out (bb b A0 A3 c0 c3))
      have hS3 := Aside0.mk (Kd.S_alloc hS2.out (bb b A0 A3 c0 c3))
      have hY3 := Aside0.mk (blk_new wr (bb b A0 A3 c0 c3))
      have hXY : w.heap.size < wr.heap.size := blk_lt hX2.out
      clear hB2 hX2 hS2
      go_wp2
      have hn1 : bs.length - 1 ≤ bs.length := by omega
      have hwn : IntKind.i64.wrap ((bs.length : Int) - 1) = (bs.length : Int) - 1 := IntWalk.i64_in _ (by omega)
      generalize hYs : wr.heap.size = Y at *
      clear hYs hn1
      go_loopw [23] (fun i wq => ∃ q : Nat, q ≤ b.f3.length ∧ i = .int .i64 q ∧ Aside0 (LL wq w.heap.size (.slice AO bs.length cO) (rowP L0 (j : Int) (b.f3.take q))) ∧ Aside0 (wq.heap[w.heap.size]? = some (fb nm pa re sl (some ad) bs.length c)) ∧ Aside0 (wq.heap[Y]? = some (bb b A0 A3 c0 c3)) ∧ Aside0 (Below w.heap.size w wq)) (fun i _ => b.f3.length - (intOf i).toNat)
      case atStart => exact ⟨0, by omega, rfl, ⟨hS3.out⟩, hX3, hY3, hB3⟩
      case round =>
        obtain ⟨q, hq, rfl, hSq, hXq, hYq, hBq⟩ := hrel
        clear hS3 hX3 hY3 hB3
        by_cases hqt : q < b.f3.length
        · obtain ⟨a3, e, y0⟩ := Kd.at_int g3.out q (by omega) (by omega)
          cases e
          simp only [Int.toNat_natCast] at y0
          replace y0 := (hBq.out.cell (World.block_lt_of_cell? w _ y0)).trans y0
          have hst := Aside0.mk (rowP_snoc L0 (j : Int) b.f3 q hqt)
          have hin1 := Aside0.mk (In1.row (b.f3.take q) hin.out)
          have hLl : (rowP L0 (j : Int) (b.f3.take q)).length = bs.length := by rw [rowP_length]; exact hLen.out
          have hLl := Aside0.mk hLl
          generalize rowP L0 (j : Int) (b.f3.take q) = L at *
          generalize rd b.f3 (q : Int) = y at *
          have hwq := Aside0.mk (fun w => within y 0 ((bs.length : Int) - 1) w)
          cases hin2 : wi y 0 ((bs.length : Int) - 1)
          · rw [hin2] at hwq
            have hst2 : Aside0 (rowP L0 (j : Int) (b.f3.take (q + 1)) = L) := ⟨by
              rw [hst.out]
              unfold stepP
              rw [if_neg]
              rw [hLl.out]
              unfold wi at hin2
              simp at hin2
              omega⟩
            clear hst hin1 hLl hin2
            go_wp2
            go_quiet ((go_at_call 42; exact Calls.quiet_of_same ((hwq.out _).mono fun _ _ h => ⟨h.1, h.2.symm⟩)))
            go_wp2
            exact ⟨⟨q + 1, by omega, by go_num, ⟨by rw [hst2.out]; exact Kd.S_drewN hSq.out _⟩, hXq, hYq, ⟨bdn hBq.out _⟩⟩, by simp [intOf]; omega⟩
          · rw [hin2] at hwq
            have hyr : 0 ≤ y ∧ y < bs.length := by unfold wi at hin2; simp at hin2; omega
            clear hin2
            obtain ⟨y00, hyt⟩ := hyr
            obtain ⟨t, rfl⟩ := Int.eq_ofNat_of_zero_le y00
            have ht : t < bs.length := by omega
            obtain ⟨gO, cO', eO, hgb, hgl, cells, hgo⟩ := Kd.S_form hSq.out (by rw [hLl.out]; omega)
            rw [hLl.out] at eO
            cases eO
            obtain ⟨oki, A4, c4, hR, hc4, hlc, hC, hH⟩ := LL.take hSq.out t ht
            have hmem := hin1.out _ (getD_in (by rw [hLl.out]; exact ht : t < L.length))
            have hstp : stepP L (j : Int) (t : Int) = if (j : Int) ∈ L.getD t [] then L else L.set t (L.getD t [] ++ [(j : Int)]) := by
              unfold stepP
              rw [if_pos ⟨by omega, by rw [hLl.out]; omega⟩, Int.toNat_natCast]
            have hlast := In1.last hin1.out (by rw [hLl.out]; exact ht : t < L.length)
            have hlenb : Aside0 ((L.getD t []).length ≤ j + 1) := ⟨by
              rcases hmem with ⟨_, h⟩ | ⟨l0, e, _, h⟩
              · omega
              · rw [e]; simp; omega⟩
            have hgX : Aside0 (w.heap.size ≠ gO) := ⟨fun e => by rw [← e, hXq.out] at hgo; cases hgo⟩
            have hgY : Aside0 (Y ≠ gO) := ⟨fun e => by rw [← e, hYq.out] at hgo; cases hgo⟩
            have hap := add_plain gO t
            have hR := Aside0.mk hR
            have hC := Aside0.mk hC
            have hH := Aside0.mk hH
            clear hmem hgo hin1
            generalize hlt1 : L.getD t [] = lt at *
            have hlt0 := Aside0.mk hlt1
            clear hlt1
            by_cases hz : lt.length = 0
            · have hlt2 : lt = [] := List.eq_nil_of_length_eq_zero hz
              have hst2 : Aside0 (rowP L0 (j : Int) (b.f3.take (q + 1)) = L.set t (lt ++ [(j : Int)])) := ⟨by rw [hst.out, hstp, if_neg (by rw [hlt2]; simp)]⟩
              have hz1 : ((lt.length : Int) == 0) = true := by simp [hz]
              clear hst hstp hlast hz hlt2 hC
              go_wp2
              go_quiet ((go_at_call 42; exact Calls.quiet_of_same ((hwq.out _).mono fun _ _ h => ⟨h.1, h.2.symm⟩)))
              have hSz := Aside0.mk (Kd.S_drewN hSq.out nq)
              have hRz := Aside0.mk (Kd.R_drewN hR.out nq)
              have hHz := Aside0.mk (Kd.H_drewN hH.out nq)
              have hXz : Aside0 ((wr.drewN nq).heap[w.heap.size]? = some (fb nm pa re sl (some ad) bs.length c)) := ⟨hXq.out⟩
              have hYz : Aside0 ((wr.drewN nq).heap[Y]? = some (bb b A0 (some a3) c0 c3)) := ⟨hYq.out⟩
              have hBz := Aside0.mk (bdn hBq.out nq)
              have hc4z : (wr.drewN nq).cell? ⟨gO, t, none⟩ = some (.slice A4 lt.length c4) := hc4
              clear hSq hR hH hXq hYq hBq hc4
              generalize wr.drewN nq = wz at *
              go_wp2_with (at_builtin; go_loud ((refine Kd.R_append (Kd.int .i64) (w0 := w) w.heap.size rfl (.tmp 61) (.tmp 63) 29 3 (.int .i64 0) 8 rfl Try.underlying29 info3' rfl (by decide) (by omega) (.slice A4 lt.length c4) lt (j : Int) [.int .i64 j] (fun k => oki k ∨ wz.heap.size ≤ k) (fun _ => False) rfl rfl ?aP (fun _ hk => hk.elim) ?aF ?aO ?aB ?aS ?aL ?_; (case aP => exact rfl); (case aB => exact hBz.out); (case aF => exact fun k hk => .inr (by simpa using hk)); (case aO => exact Kd.R_mono hRz.out (fun _ hk => .inl hk)); (case aS => exact below_size hBz.out); (case aL => have := hlenb.out; omega); intro v1 w1 ho hb hg hat; have hput := Aside0.mk (LL.put (N := wz.heap.size) hHz.out ht (by rw [hlt0.out]; exact hRz.out) hg ho (Nat.le_refl _)); have hX5 := Aside0.mk (blk_grown hXz.out hg (Kd.R_ne hRz.out hXz.out (by decide))); have hY5 := Aside0.mk (blk_grown hYz.out hg (Kd.R_ne hRz.out hYz.out (by decide))); have hB5 := Aside0.mk hb; have hx5 := hput.out.2.1; have hf5 := hput.out.2.2.1; obtain ⟨A5, c5, rfl⟩ := Kd.R_slice ho; simp only [List.length_append, List.length_cons, List.length_nil, Nat.zero_add] at hput; clear ho hb hg hat)))
              exact ⟨⟨q + 1, by omega, by go_num, ⟨by rw [hst2.out]; exact hput.out.1⟩, ⟨blk_grown hX5.out hput.out.2.2.2 (by intro e; injection e with e; exact hgX.out e)⟩, ⟨blk_grown hY5.out hput.out.2.2.2 (by intro e; injection e with e; exact hgY.out e)⟩, ⟨hB5.out.setCell hgb _⟩⟩, by simp [intOf]; omega⟩
            · have hz1 : ((lt.length : Int) == 0) = false := beq_eq_false_iff_ne.mpr (by omega)
              obtain ⟨a4, e4, x0⟩ := Kd.at_int hC.out ((lt.length - 1 : Nat) : Int) (by omega) (by omega)
              cases e4
              simp only [Int.toNat_natCast] at x0
              have hlast := hlast (by omega)
              generalize rd lt ((lt.length - 1 : Nat) : Int) = x at *
              have hwl : IntKind.i64.wrap ((lt.length : Int) - 1) = ((lt.length - 1 : Nat) : Int) := by rw [IntWalk.i64_in _ (by have := hlenb.out; omega)]; omega
              have hq0 : ((lt.length - 1 : Nat) : Int) < (lt.length : Int) := by omega
              have hq1 : lt.length - 1 < lt.length := by omega
              by_cases hx : x = (j : Int)
              · have hst2 : Aside0 (rowP L0 (j : Int) (b.f3.take (q + 1)) = L) := ⟨by rw [hst.out, hstp, if_pos (hlast.2 hx)]⟩
                subst hx
                clear hst hstp hlast hC hz
                go_wp2
                go_quiet ((go_at_call 42; exact Calls.quiet_of_same ((hwq.out _).mono fun _ _ h => ⟨h.1, h.2.symm⟩)))
                go_wp2
                exact ⟨⟨q + 1, by omega, by go_num, ⟨by rw [hst2.out]; exact Kd.S_drewN hSq.out _⟩, hXq, hYq, ⟨bdn hBq.out _⟩⟩, by simp [intOf]; omega⟩
              · have hst2 : Aside0 (rowP L0 (j : Int) (b.f3.take (q + 1)) = L.set t (lt ++ [(j : Int)])) := ⟨by rw [hst.out, hstp, if_neg (fun h => hx (hlast.1 h))]⟩
                have hx1 : (x == (j : Int)) = false := by simpa using hx
                have hx2 : (x != (j : Int)) = true := by simpa using hx
                clear hst hstp hlast hC hz hx
                go_wp2
                go_quiet ((go_at_call 42; exact Calls.quiet_of_same ((hwq.out _).mono fun _ _ h => ⟨h.1, h.2.symm⟩)))
                have hSz := Aside0.mk (Kd.S_drewN hSq.out nq)
                have hRz := Aside0.mk (Kd.R_drewN hR.out nq)
                have hHz := Aside0.mk (Kd.H_drewN hH.out nq)
                have hXz : Aside0 ((wr.drewN nq).heap[w.heap.size]? = some (fb nm pa re sl (some ad) bs.length c)) := ⟨hXq.out⟩
                have hYz : Aside0 ((wr.drewN nq).heap[Y]? = some (bb b A0 (some a3) c0 c3)) := ⟨hYq.out⟩
                have hBz := Aside0.mk (bdn hBq.out nq)
                have hc4z : (wr.drewN nq).cell? ⟨gO, t, none⟩ = some (.slice (some a4) lt.length c4) := hc4
                clear hSq hR hH hXq hYq hBq hc4
                generalize wr.drewN nq = wz at *
                go_wp2_with (at_builtin; go_loud ((refine Kd.R_append (Kd.int .i64) (w0 := w) w.heap.size rfl (.tmp 61) (.tmp 63) 29 3 (.int .i64 0) 8 rfl Try.underlying29 info3' rfl (by decide) (by omega) (.slice (some a4) lt.length c4) lt (j : Int) [.int .i64 j] (fun k => oki k ∨ wz.heap.size ≤ k) (fun _ => False) rfl rfl ?aP (fun _ hk => hk.elim) ?aF ?aO ?aB ?aS ?aL ?_; (case aP => exact rfl); (case aB => exact hBz.out); (case aF => exact fun k hk => .inr (by simpa using hk)); (case aO => exact Kd.R_mono hRz.out (fun _ hk => .inl hk)); (case aS => exact below_size hBz.out); (case aL => have := hlenb.out; omega); intro v1 w1 ho hb hg hat; have hput := Aside0.mk (LL.put (N := wz.heap.size) hHz.out ht (by rw [hlt0.out]; exact hRz.out) hg ho (Nat.le_refl _)); have hX5 := Aside0.mk (blk_grown hXz.out hg (Kd.R_ne hRz.out hXz.out (by decide))); have hY5 := Aside0.mk (blk_grown hYz.out hg (Kd.R_ne hRz.out hYz.out (by decide))); have hB5 := Aside0.mk hb; have hx5 := hput.out.2.1; have hf5 := hput.out.2.2.1; obtain ⟨A5, c5, rfl⟩ := Kd.R_slice ho; simp only [List.length_append, List.length_cons, List.length_nil, Nat.zero_add] at hput; clear ho hb hg hat)))
                exact ⟨⟨q + 1, by omega, by go_num, ⟨by rw [hst2.out]; exact hput.out.1⟩, ⟨blk_grown hX5.out hput.out.2.2.2 (by intro e; injection e with e; exact hgX.out e)⟩, ⟨blk_grown hY5.out hput.out.2.2.2 (by intro e; injection e with e; exact hgY.out e)⟩, ⟨hB5.out.setCell hgb _⟩⟩, by simp [intOf]; omega⟩
        · obtain rfl : q = b.f3.length := by omega
          rw [List.take_length] at hSq
          go_wp2
          exact ⟨⟨j + 1, by omega, by go_num, ⟨by rw [hnext.out]; exact hSq.out⟩, hXq, hBq⟩, by simp [intOf]; omega⟩
    · obtain rfl : j = bs.length := by omega
      go_wp2
      go_ret
      exact ⟨_, rfl, hS2.out, hB2.out⟩
end Go.Proofs.Ytidhkicpandmbaa.IrA
