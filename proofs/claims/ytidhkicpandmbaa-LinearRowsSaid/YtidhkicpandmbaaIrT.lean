/- The reference's Reached. -/
import Derived.Test.YtidhkicpandmbaaIrM
namespace Go.Proofs.Ytidhkicpandmbaa.IrA
open Go.RowKit Go.Proofs.YtidhkicpandmbaaW.PrintWords Go.Proofs.YtidhkicpandmbaaW.PrintLast Go.Proofs.YtidhkicpandmbaaW.PrintMore Go.Proofs.Ytidhkicpandmbaa.GF
set_option linter.unusedVariables false
set_option linter.unusedSimpArgs false

set_option maxHeartbeats 16000000 in
set_option maxRecDepth 100000 in
theorem rreached_walk {w : World} (nm : ByteArray) (pa re sl : Int) (A : Option Addr) (c : Nat) (bs : List S39) (hl : Aside0 (Kd.C k39 w A bs.length bs)) (hn : bs.length ≤ 2199023255552) :
    Calls Try.prog 12 #[fv nm pa re sl A bs.length c] w (RetM (reached bs) w) := by
  have hX : Aside0 ((w.alloc (fb nm pa re sl A bs.length c)).heap[w.heap.size]? = some (fb nm pa re sl A bs.length c)) := ⟨blk_new w _⟩
  have hB : Aside0 (Below w.heap.size w (w.alloc (fb nm pa re sl A bs.length c))) := ⟨below_alloc (Below.refl _ _) _⟩
  by_cases hz : bs.length = 0
  · obtain rfl : bs = [] := List.eq_nil_of_length_eq_zero hz
    clear hz
    have q0 : ((0 : Int) == 0) = true := rfl
    go_enter Try.func12, Try.ntmps12
    go_wp2_with ((with_reducible refine gate_dst (N := 11) rfl ?_); refine Kd.R_make Kd.bool (w0 := w.alloc (fb nm pa re sl A 0 c)) _ 4 rfl (N := 11) rfl 34 _ _ rfl (0 : Int) rfl rfl Try.underlying34 (.bool false) 1 info4' rfl (by decide) (by omega) false (ok := fun _ => True) (okp := fun _ => True) rfl (fun _ hk => hk) trivial (by omega) (by omega) (Below.refl _ _) (Nat.le_refl _) ?_; intro v1 w1 hS hb hg hat; have hS1 : Aside0 (Kd.R Kd.bool 4 w1 w.heap.size (fun _ => True) v1 []) := ⟨Kd.R_lower hS hB.out.size⟩; have hB1 := Aside0.mk (below_step hB.out hb); obtain ⟨AO, cO, eO⟩ := Kd.R_slice hS1.out; subst eO; have y4 : w1.cell? ⟨w.heap.size, 4, none⟩ = some (.slice A 0 c) := (blk_cell ((hb.block _ (blk_lt hX.out)).trans hX.out) 4).trans rfl; clear hS hb hg hat)
    go_ret
    exact ⟨_, rfl, hS1.out, hB1.out⟩
  · have hp : 0 < bs.length := by omega
    have q0 : ((bs.length : Int) == 0) = false := beq_eq_false_iff_ne.mpr (by omega)
    clear hz
    have hGd := Aside0.mk (gd_start hp)
    have hres : Aside0 (reached bs = fin bs (meas ((List.replicate bs.length false).set 0 true, [0])) ((List.replicate bs.length false).set 0 true, [0])) := ⟨by
      unfold reached
      rw [if_neg (by omega)]
      exact fin_more bs _ _ hGd.out.m⟩
    generalize hl0 : (List.replicate bs.length false).set 0 true = l0 at *
    replace hl0 := Aside0.mk hl0
    go_enter Try.func12, Try.ntmps12
    go_upto_region 4 with ((with_reducible refine gate_dst (N := 11) rfl ?_); refine Kd.R_make Kd.bool (w0 := w.alloc (fb nm pa re sl A bs.length c)) _ 4 rfl (N := 11) rfl 34 _ _ rfl (bs.length : Int) rfl rfl Try.underlying34 (.bool false) 1 info4' rfl (by decide) (by omega) false (ok := fun _ => True) (okp := fun _ => True) rfl (fun _ hk => hk) trivial (by omega) (by omega) (Below.refl _ _) (Nat.le_refl _) ?_; intro v1 w1 hS hb hg hat; have hS1 : Aside0 (Kd.R Kd.bool 4 w1 w.heap.size (fun _ => True) v1 (List.replicate bs.length false)) := ⟨Kd.R_lower (by rw [Int.toNat_natCast] at hS; exact hS) hB.out.size⟩; have hB1 := Aside0.mk (below_step hB.out hb); have hX1 := Aside0.mk (blk_grown hX.out hg (by simp)); obtain ⟨gl, cl, e1, _, _, _⟩ := Kd.R_form hS1.out (by simpa using hp); rw [List.length_replicate] at e1; subst e1; have y4 : w1.cell? ⟨w.heap.size, 4, none⟩ = some (.slice A bs.length c) := (blk_cell hX1.out 4).trans rfl; clear hS hb hg hat)
    have hq0 : Rq w w1 gl bs.length cl (.slice none 0 0) (fb nm pa re sl A bs.length c) (List.replicate bs.length false, []) := ⟨hS1.out, Kd.R_nil _ _ _ _ _, hX1.out, hB1.out⟩
    obtain ⟨k0, f0⟩ := hq0.at_ 0 hp (by simp)
    have hq1 := Aside0.mk (hq0.put 0 hp (by simp))
    have hap := add_plain gl 0
    clear hq0 hS1 hX1 hB1 hX hB
    go_upto_region 5 with (fail)
    clear k0 f0 y4
    generalize w1.setCell ⟨gl, 0, none⟩ (.bool true) = W2 at *
    go_wp2_with ((with_reducible refine gate_dst (N := 19) rfl ?_); refine Kd.R_lit (Kd.int .i64) _ 3 rfl (N := 19) rfl (xs := ([0] : List Int)) (inner := [.int .i64 0]) (ok := fun _ => True) (okp := fun _ => True) ?hr ?hp (fun _ hk => hk) trivial (Below.refl _ _) (Nat.le_refl _) (by simp) ?_; (case hr => first | (go_simp; done) | (go_simp; rfl)); (case hp => exact (Reps.one (show Kd.M (Kd.int .i64) _ _ _ 0 [.int .i64 0] from rfl) (Reps.none _ _))); intro v4 W3 ho hb hg hat; have hq3 : Aside0 (Rq w W3 gl bs.length cl v4 (fb nm pa re sl A bs.length c) (l0, [0])) := ⟨by have h := hq1.out.next hb; have h2 := Kd.R_lower ho hq1.out.hB.size; rw [← hl0.out]; exact ⟨h.hL, h2, h.hX, h.hB⟩⟩; clear ho hb hg hat)
    clear hq1 hl0
    go_loopg [4] (meas (l0, [0])) (fun kq v wr => ∃ st : Rst, kq = meas st ∧ Aside0 (Rq w wr gl bs.length cl v (fb nm pa re sl A bs.length c) st) ∧ Aside0 (Gd bs.length st) ∧ Aside0 (fin bs (meas st) st = reached bs))
    case atStart => exact ⟨(l0, [0]), rfl, hq3, hGd, ⟨hres.out.symm⟩⟩
    case round =>
      obtain ⟨st, rfl, hq, hgd, hF⟩ := hrel
      clear hq3 hGd hres
      obtain ⟨A4, c4, rfl⟩ := Kd.R_slice hq.out.hR
      have hmr : st.2.length ≤ bs.length := by have := hgd.out.m; unfold meas at this; omega
      by_cases he : st.2.length = 0
      · have he2 : st.2 = [] := List.eq_nil_of_length_eq_zero he
        have hr2 : Aside0 (st.1 = reached bs) := ⟨by rw [← hF.out, fin_nil bs he2]⟩
        have q1 : decide ((0 : Int) < (st.2.length : Int)) = false := decide_eq_false (by omega)
        have q2 : decide (0 < st.2.length) = false := decide_eq_false (by omega)
        clear he he2
        go_wp2
        go_ret
        exact ⟨_, rfl, by rw [← hr2.out]; exact hq.out.hL, hq.out.hB⟩
      · have he2 : st.2 ≠ [] := fun e => he (by rw [e]; rfl)
        have hmt := meas_turn bs he2
        have hft := Aside0.mk (fin_turn bs he2)
        have hgt := Aside0.mk (hgd.out.turn (bs := bs))
        have hpos : 0 < st.2.length := by omega
        have hx := hgd.out.row (st.2.getLastD 0) (by rw [List.getLastD_eq_getLast?, List.getLast?_eq_some_getLast he2]; exact List.getLast_mem he2)
        obtain ⟨x, hxe⟩ := Int.eq_ofNat_of_zero_le hx.1
        have hxn : x < bs.length := by omega
        have htu : Aside0 (turn bs st = (bs.getD x z39).f3.foldl stepT (st.1, st.2.dropLast)) := ⟨by unfold turn; rw [hxe]; rfl⟩
        obtain ⟨a4, e, r0⟩ := Kd.at_int (Kd.R_reads' hq.out.hR).2.2 ((st.2.length - 1 : Nat) : Int) (by omega) (by omega)
        cases e
        simp only [Int.toNat_natCast] at r0
        have hrd : rd st.2 ((st.2.length - 1 : Nat) : Int) = (x : Int) := by
          rw [← hxe, rd_at _ _ (by omega), List.getLastD_eq_getLast?, List.getLast?_eq_some_getLast he2, Option.getD_some, List.getLast_eq_getElem]
        rw [hrd] at r0
        obtain ⟨ad, B0, d0, B3, d3, e, x0, x1, x2, x3, l0', g0', l3, g3'⟩ := at_T39 hl.out (x : Int) (by omega) (by omega)
        cases e
        simp only [Int.toNat_natCast] at x0 x1 x2 x3
        replace x0 := (hq.out.hB.cell (World.block_lt_of_cell? w _ x0)).trans x0
        replace x1 := (hq.out.hB.cell (World.block_lt_of_cell? w _ x1)).trans x1
        replace x2 := (hq.out.hB.cell (World.block_lt_of_cell? w _ x2)).trans x2
        have x3w := x3
        replace x3 := (hq.out.hB.cell (World.block_lt_of_cell? w _ x3)).trans x3
        have eb : rd_T39 bs (x : Int) = bs.getD x z39 := by simp [rd_T39]
        rw [eb] at x0 x1 x2 x3 x3w g3'
        replace x3w := Aside0.mk x3w
        have hx3w := x3w
        clear x3w
        generalize bs.getD x z39 = b at *
        replace g3' := Aside0.mk g3'
        have hmx3 := Kd.C_max g3'.out
        have y4 : wr.cell? ⟨w.heap.size, 4, none⟩ = some (.slice (some ad) bs.length c) := (blk_cell hq.out.hX 4).trans rfl
        have hwl : IntKind.i64.wrap ((st.2.length : Int) - 1) = ((st.2.length - 1 : Nat) : Int) := by rw [IntWalk.i64_in _ (by omega)]; omega
        have q1 : decide ((0 : Int) < (st.2.length : Int)) = true := decide_eq_true (by omega)
        have q2 : decide (0 < st.2.length) = true := decide_eq_true (by omega)
        have q3 : ((st.2.length - 1 : Nat) : Int) < (st.2.length : Int) := by omega
        have q4 : st.2.length - 1 < st.2.length := by omega
        have q5 : (x : Int) < (bs.length : Int) := by omega
        clear hrd hxe hx l0' g0' l3 eb he he2
        replace hmt := Aside0.mk hmt
        have hsl : ∀ W : World, (Instr.slice 29 (.slice (some a4) st.2.length c4) none (some (.int .i64 ((st.2.length - 1 : Nat) : Int))) none).run Try.prog W = .ok (.slice (some a4) (st.2.length - 1) c4) W := by
          obtain ⟨i0, hi, _⟩ := Option.map_eq_some_iff.1 info3'
          have := cut_to 29 3 .i64 Try.underlying29 hi (some a4) st.2.length c4 ((st.2.length - 1 : Nat) : Int) (by omega) (by omega) (Kd.R_reads' hq.out.hR).2.1
          rwa [Int.toNat_natCast] at this
        have hq5 := Aside0.mk ((hq.out.next (show Below wr.heap.size wr wr.drew from ⟨rfl, rfl, rfl, Nat.le_refl _, fun _ _ => rfl⟩)).next (below_alloc (Below.refl wr.drew.heap.size wr.drew) (bb b B0 B3 d0 d3)))
        have hq6 := Aside0.mk hq5.out.pop
        have hg6 := Aside0.mk hgd.out.pop
        have ft0 : Aside0 ((st.1, st.2.dropLast) = (b.f3.take 0).foldl stepT (st.1, st.2.dropLast)) := ⟨rfl⟩
        have hq6 := Aside0.mk hq.out.pop
        have hg6 := Aside0.mk hgd.out.pop
        go_wp2
        clear y4 r0 q3 q4 x0 x1 x2 x3
        have hB0 := Aside0.mk hq.out.hB
        clear hq
        go_loopw [4, 6] (fun v i wq => ∃ q : Nat, q ≤ b.f3.length ∧ i = .int .i64 q ∧ Aside0 (Rq w wq gl bs.length cl v (fb nm pa re sl (some ad) bs.length c) ((b.f3.take q).foldl stepT (st.1, st.2.dropLast))) ∧ Aside0 (Gd bs.length ((b.f3.take q).foldl stepT (st.1, st.2.dropLast)))) (fun _ i _ => b.f3.length - (intOf i).toNat)
        case atStart => exact ⟨0, by omega, rfl, hq6, hg6⟩
        case round =>
            obtain ⟨q, hqq, rfl, hq7, hg7⟩ := hrel
            clear hq6 hg6
            have y4 : wr.cell? ⟨w.heap.size, 4, none⟩ = some (.slice (some ad) bs.length c) := (blk_cell hq7.out.hX 4).trans rfl
            have x3 := (hq7.out.hB.cell (World.block_lt_of_cell? w _ hx3w.out)).trans hx3w.out
            by_cases hqt : q < b.f3.length
            · obtain ⟨a3, e, z0⟩ := Kd.at_int g3'.out q (by omega) (by omega)
              cases e
              simp only [Int.toNat_natCast] at z0
              replace z0 := (hq7.out.hB.cell (World.block_lt_of_cell? w _ z0)).trans z0
              have hst := Aside0.mk (foldl_snoc (st.1, st.2.dropLast) b.f3 q hqt)
              have hg8 := hg7.out.step (rd b.f3 (q : Int))
              generalize (b.f3.take q).foldl stepT (st.1, st.2.dropLast) = s7 at *
              generalize rd b.f3 (q : Int) = y at *
              have hlen7 := hg7.out.len
              have hm7 : s7.2.length ≤ bs.length := by have := hg7.out.m; unfold meas at this; omega
              have hwn : IntKind.i64.wrap ((bs.length : Int) - 1) = (bs.length : Int) - 1 := IntWalk.i64_in _ (by omega)
              replace hlen7 := Aside0.mk hlen7
              by_cases hyr : 0 ≤ y ∧ y < bs.length
              rotate_left
              · have hs8 : stepT s7 y = s7 := by unfold stepT; rw [if_neg]; rw [hlen7.out]; exact hyr
                rw [hs8] at hst hg8
                have hy2 : y < 0 ∨ (0 ≤ y ∧ (bs.length : Int) ≤ y) := by omega
                clear hs8 hyr hg8
                rcases hy2 with hy2 | ⟨hy2, hy3⟩
                all_goals
                 go_wp2
                 exact ⟨⟨q + 1, by omega, by go_num, by rw [hst.out]; exact hq7, by rw [hst.out]; exact hg7⟩, by simp [intOf]; omega⟩
              · obtain ⟨y00, hyt⟩ := hyr
                obtain ⟨t, rfl⟩ := Int.eq_ofNat_of_zero_le y00
                have ht : t < bs.length := by omega
                obtain ⟨k0, f0⟩ := hq7.out.at_ t ht hlen7.out
                have hap := add_plain gl t
                have hs8 : stepT s7 (t : Int) = if s7.1.getD t false = true then s7 else (s7.1.set t true, s7.2 ++ [(t : Int)]) := by
                  unfold stepT
                  rw [if_pos ⟨by omega, by rw [hlen7.out]; omega⟩, Int.toNat_natCast]
                have hput := Aside0.mk (hq7.out.put t ht hlen7.out)
                cases hv : s7.1.getD t false
                · rw [hv] at k0 hs8
                  have hs9 : stepT s7 (t : Int) = (s7.1.set t true, s7.2 ++ [(t : Int)]) := by rw [hs8]; rfl
                  rw [hs9] at hst hg8
                  replace hg8 := Aside0.mk hg8
                  clear hs8 hs9 hv
                  go_upto_region 15 with (fail)
                  clear k0 f0 z0 y4 x3
                  generalize wr.setCell ⟨gl, t, none⟩ (.bool true) = W9 at *
                  obtain ⟨A5, c5, rfl⟩ := Kd.R_slice hput.out.hR
                  go_wp2_with (at_builtin; go_loud ((refine Kd.R_append (Kd.int .i64) (w0 := w) w.heap.size rfl (.tmp 73) (.tmp 75) 29 3 (.int .i64 0) 8 rfl Try.underlying29 info3' rfl (by decide) (by omega) (.slice A5 s7.2.length c5) s7.2 (t : Int) [.int .i64 (t : Int)] (fun _ => True) (fun _ => False) rfl rfl ?aP (fun _ hk => hk.elim) ?aF ?aO ?aB ?aS ?aL ?_; (case aP => exact rfl); (case aB => exact hput.out.hB); (case aF => exact fun _ _ => trivial); (case aO => exact hput.out.hR); (case aS => exact below_size hput.out.hB); (case aL => omega); intro v1 w1 ho hb hg hat; have hq9 := Aside0.mk (hput.out.push hg ho hb); obtain ⟨A6, c6, rfl⟩ := Kd.R_slice ho; simp only [List.length_append, List.length_cons, List.length_nil, Nat.zero_add] at hq9; clear ho hb hg hat)))
                  exact ⟨⟨q + 1, by omega, by go_num, by rw [hst.out]; exact hq9, by rw [hst.out]; exact hg8⟩, by simp [intOf]; omega⟩
                · rw [hv] at k0 hs8
                  have hs9 : stepT s7 (t : Int) = s7 := by rw [hs8]; rfl
                  rw [hs9] at hst hg8
                  clear hs8 hs9 hv hput hg8
                  go_wp2
                  exact ⟨⟨q + 1, by omega, by go_num, by rw [hst.out]; exact hq7, by rw [hst.out]; exact hg7⟩, by simp [intOf]; omega⟩
            · obtain rfl : q = b.f3.length := by omega
              rw [List.take_length] at hq7 hg7
              rw [← htu.out] at hq7 hg7
              go_wp2
              go_roundg (meas (turn bs st))
              case measure => have := hmt.out; omega
              case rel => exact ⟨turn bs st, rfl, hq7, hg7, ⟨by rw [← hft.out]; exact hF.out⟩⟩
end Go.Proofs.Ytidhkicpandmbaa.IrA
