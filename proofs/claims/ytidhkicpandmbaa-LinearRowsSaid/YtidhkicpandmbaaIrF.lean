/- The reference's has and Preds. -/
import Derived.Test.YtidhkicpandmbaaIrE
namespace Go.Proofs.Ytidhkicpandmbaa.IrA
open Go.RowKit Go.Proofs.YtidhkicpandmbaaW.PrintWords Go.Proofs.YtidhkicpandmbaaW.PrintLast Go.Proofs.YtidhkicpandmbaaW.PrintMore Go.Proofs.Ytidhkicpandmbaa.GF
set_option linter.unusedVariables false
set_option linter.unusedSimpArgs false

theorem rd_at (l : List Int) (j : Nat) (h : j < l.length) : rd l (j : Int) = l[j] := by simp [rd, List.getD_eq_getElem?_getD, List.getElem?_eq_getElem h]
theorem rd_mem (l : List Int) (j : Nat) (h : j < l.length) : rd l (j : Int) ∈ l := by rw [rd_at l j h]; exact List.getElem_mem h
theorem mem_take_succ (l : List Int) (j : Nat) (h : j < l.length) (n : Int) : n ∈ l.take (j + 1) ↔ n ∈ l.take j ∨ n = rd l (j : Int) := by
  rw [rd_at l j h, List.take_succ_eq_append_getElem h, List.mem_append, List.mem_singleton]
set_option maxHeartbeats 4000000 in
set_option maxRecDepth 100000 in
theorem rhas {w : World} {A : Option Addr} {c : Nat} {l : List Int} (n : Int) (hl : Aside0 (Kd.C (Kd.int .i64) w A l.length l)) : Calls Try.prog 45 #[.slice A l.length c, .int .i64 n] w (Ret (.bool (decide (n ∈ l))) w) := by
  have hmx := Kd.C_max hl.out
  go_enter Try.func45, Try.ntmps45
  go_wp2
  go_loop [5] (fun i => ∃ j : Nat, j ≤ l.length ∧ i = .int .i64 j ∧ Aside0 (¬ n ∈ l.take j)) (fun i => l.length - (intOf i).toNat)
  case atStart => exact ⟨0, by omega, rfl, ⟨by simp⟩⟩
  case round =>
    obtain ⟨j, hj, rfl, ht⟩ := hrel
    by_cases hlt : j < l.length
    · obtain ⟨ad, e, a0⟩ := Kd.at_int hl.out j (by omega) (by omega)
      cases e
      simp only [Int.toNat_natCast] at a0
      have hs := Aside0.mk (mem_take_succ l j hlt n)
      have hm := Aside0.mk (rd_mem l j hlt)
      generalize rd l (j : Int) = y at *
      by_cases hy : y = n
      · subst hy
        have hd : Aside0 (decide (y ∈ l) = true) := ⟨by simp [hm.out]⟩
        clear hs hm
        go_wp2
        go_ret
        rw [hd.out]
        exact ⟨rfl, rfl⟩
      · have hy1 : (y == n) = false := by simpa using hy
        have ht2 : Aside0 (¬ n ∈ l.take (j + 1)) := ⟨by rw [hs.out]; rintro (h | h); exact ht.out h; exact hy h.symm⟩
        clear hs hm hy ht
        go_wp2
        go_round
        case rel => exact ⟨j + 1, by omega, by go_num, ht2⟩
        case measure => simp [intOf]; omega
    · obtain rfl : j = l.length := by omega
      have hd : Aside0 (decide (n ∈ l) = false) := ⟨by have := ht.out; rw [List.take_length] at this; simp [this]⟩
      clear ht
      go_wp2
      go_ret
      rw [hd.out]
      exact ⟨rfl, rfl⟩

set_option maxHeartbeats 16000000 in
set_option maxRecDepth 100000 in
theorem rpreds {w : World} (nm : ByteArray) (pa re sl : Int) (A : Option Addr) (c : Nat) (bs : List S39) (hl : Aside0 (Kd.C k39 w A bs.length bs)) (hn : bs.length ≤ 2199023255552) :
    Calls Try.prog 30 #[fv nm pa re sl A bs.length c] w (RetL (predsP bs) w) := by
  have hX : Aside0 ((w.alloc (fb nm pa re sl A bs.length c)).heap[w.heap.size]? = some (fb nm pa re sl A bs.length c)) := ⟨blk_new w _⟩
  have hB : Aside0 (Below w.heap.size w (w.alloc (fb nm pa re sl A bs.length c))) := ⟨below_alloc (Below.refl _ _) _⟩
  go_enter Try.func30, Try.ntmps30
  go_wp2_with ((with_reducible refine gate_dst (N := 10) rfl ?_); refine Kd.S_make KL (w0 := w.alloc (fb nm pa re sl A bs.length c)) _ 29 rfl (N := 10) rfl 61 _ _ rfl (bs.length : Int) rfl rfl Try.underlying61 (.slice none 0 0) 24 info41' rfl (by decide) (by omega) [] (ok := fun _ => True) (okp := fun _ => True) ⟨_, rfl, Kd.R_nil _ _ _ _ _⟩ (fun _ h => h) trivial (by omega) (by omega) (Below.refl _ _) (Nat.le_refl _) ?_; intro v1 w1 hS hb hg hat; have hX1 := Aside0.mk (blk_grown hX.out hg (by simp)); have hB1 := Aside0.mk (below_step hB.out hb); have hS1 : Aside0 (LL w1 w.heap.size v1 (predsTo bs 0)) := ⟨Kd.S_lower (by rw [Int.toNat_natCast] at hS; exact hS) hB.out.size⟩; obtain ⟨AO, cO, eO⟩ := Kd.S_slice hS; rw [Int.toNat_natCast, List.length_replicate] at eO; subst eO; have k4 : w1.cell? ⟨w.heap.size, 4, none⟩ = some (.slice A bs.length c) := (blk_cell hX1.out 4).trans rfl; clear hS hb hg hat hX hB)
  go_loopw [4] (fun i wr => ∃ j : Nat, j ≤ bs.length ∧ i = .int .i64 j ∧ Aside0 (LL wr w.heap.size (.slice AO bs.length cO) (predsTo bs j)) ∧ Aside0 (wr.heap[w.heap.size]? = some (fb nm pa re sl A bs.length c)) ∧ Aside0 (Below w.heap.size w wr)) (fun i _ => bs.length - (intOf i).toNat)
  case atStart => exact ⟨0, by omega, rfl, hS1, hX1, hB1⟩
  case round =>
    obtain ⟨j, hj, rfl, hS2, hX2, hB2⟩ := hrel
    clear hS1 hX1 hB1
    by_cases hlt : j < bs.length
    · obtain ⟨ad, A0, c0, A3, c3, e, d0, d1, d2, d3, l0, g0, l3, g3⟩ := at_T39 hl.out (j : Int) (by omega) (by omega)
      cases e
      simp only [Int.toNat_natCast] at d0 d1 d2 d3
      have g3 := Aside0.mk g3
      have hd3 := Aside0.mk d3
      replace d3 := (hB2.out.cell (World.block_lt_of_cell? w _ d3)).trans d3
      have hnext : Aside0 (predsTo bs (j + 1) = rowP (predsTo bs j) (j : Int) (rd_T39 bs j).f3) := ⟨rfl⟩
      have hin := Aside0.mk (in0_preds bs j).one
      have hLen := predsTo_length bs j
      have hLen := Aside0.mk hLen
      have hmx3 := Kd.C_max g3.out
      generalize rd_T39 bs (j : Int) = b at *
      generalize hL0 : predsTo bs j = L0 at *
      have hL0 := Aside0.mk hL0
      clear l0 g0 l3 d0 d1 d2
      have k4 : wr.cell? ⟨w.heap.size, 4, none⟩ = some (.slice (some ad) bs.length c) := (blk_cell hX2.out 4).trans rfl
      go_wp2
      clear k4 d3
      go_loopw [5] (fun i wq => ∃ q : Nat, q ≤ b.f3.length ∧ i = .int .i64 q ∧ Aside0 (LL wq w.heap.size (.slice AO bs.length cO) (rowP L0 (j : Int) (b.f3.take q))) ∧ Aside0 (wq.heap[w.heap.size]? = some (fb nm pa re sl (some ad) bs.length c)) ∧ Aside0 (Below w.heap.size w wq)) (fun i _ => b.f3.length - (intOf i).toNat)
      case atStart => exact ⟨0, by omega, rfl, ⟨hS2.out⟩, hX2, hB2⟩
      case round =>
        obtain ⟨q, hq, rfl, hSq, hXq, hBq⟩ := hrel
        clear hS2 hX2 hB2
        have k4 : wr.cell? ⟨w.heap.size, 4, none⟩ = some (.slice (some ad) bs.length c) := (blk_cell hXq.out 4).trans rfl
        have d3 := (hBq.out.cell (World.block_lt_of_cell? w _ hd3.out)).trans hd3.out
        by_cases hqt : q < b.f3.length
        · obtain ⟨a3, e, y0⟩ := Kd.at_int g3.out q (by omega) (by omega)
          cases e
          simp only [Int.toNat_natCast] at y0
          replace y0 := (hBq.out.cell (World.block_lt_of_cell? w _ y0)).trans y0
          have hst := Aside0.mk (rowP_snoc L0 (j : Int) b.f3 q hqt)
          have hin1 := Aside0.mk (In1.row (b.f3.take q) hin.out)
          have hLl : (rowP L0 (j : Int) (b.f3.take q)).length = bs.length := by rw [rowP_length]; exact hLen.out
          have hLl := Aside0.mk hLl
          generalize rowP L0 (j : Int) (b.f3.take q) = L at *
          generalize rd b.f3 (q : Int) = y at *
          by_cases hyr : 0 ≤ y ∧ y < bs.length
          · obtain ⟨y00, hyt⟩ := hyr
            obtain ⟨t, rfl⟩ := Int.eq_ofNat_of_zero_le y00
            have ht : t < bs.length := by omega
            obtain ⟨gO, cO', eO, hgb, hgl, cells, hgo⟩ := Kd.S_form hSq.out (by rw [hLl.out]; omega)
            rw [hLl.out] at eO
            cases eO
            obtain ⟨oki, A4, c4, hR, hc4, hlc, hC, hH⟩ := LL.take hSq.out t ht
            have hmem := hin1.out _ (getD_in (by rw [hLl.out]; exact ht : t < L.length))
            have hstp : stepP L (j : Int) (t : Int) = if (j : Int) ∈ L.getD t [] then L else L.set t (L.getD t [] ++ [(j : Int)]) := by
              unfold stepP
              rw [if_pos ⟨by omega, by rw [hLl.out]; omega⟩, Int.toNat_natCast]
            have hlenb : Aside0 ((L.getD t []).length ≤ j + 1) := ⟨by
              rcases hmem with ⟨_, h⟩ | ⟨l0, e, _, h⟩
              · omega
              · rw [e]; simp; omega⟩
            have hgX : Aside0 (w.heap.size ≠ gO) := ⟨fun e => by rw [← e, hXq.out] at hgo; cases hgo⟩
            have hap := add_plain gO t
            have hR := Aside0.mk hR
            have hC := Aside0.mk hC
            have hH := Aside0.mk hH
            clear hmem hgo hin1
            generalize hlt1 : L.getD t [] = lt at *
            have hlt0 := Aside0.mk hlt1
            clear hlt1
            have hhas := Aside0.mk (rhas (c := c4) (j : Int) hC)
            by_cases hx : (j : Int) ∈ lt
            · have hst2 : Aside0 (rowP L0 (j : Int) (b.f3.take (q + 1)) = L) := ⟨by rw [hst.out, hstp, if_pos hx]⟩
              have hd := Aside0.mk (show decide ((j : Int) ∈ lt) = true by simp [hx])
              rw [hd.out] at hhas
              clear hst hstp hC hx hd
              go_wp2_with ((with_reducible refine hhas.out.mono ?_); rintro e w' ⟨rfl, rfl⟩)
              exact ⟨⟨q + 1, by omega, by go_num, ⟨by rw [hst2.out]; exact hSq.out⟩, hXq, hBq⟩, by simp [intOf]; omega⟩
            · have hst2 : Aside0 (rowP L0 (j : Int) (b.f3.take (q + 1)) = L.set t (lt ++ [(j : Int)])) := ⟨by rw [hst.out, hstp, if_neg hx]⟩
              have hd := Aside0.mk (show decide ((j : Int) ∈ lt) = false by simp [hx])
              rw [hd.out] at hhas
              clear hst hstp hC hx hd
              go_wp2_with (first | ((with_reducible refine hhas.out.mono ?_); rintro e w' ⟨rfl, rfl⟩) | (at_builtin; go_loud ((refine Kd.R_append (Kd.int .i64) (w0 := w) w.heap.size rfl (.tmp 61) (.tmp 63) 29 3 (.int .i64 0) 8 rfl Try.underlying29 info3' rfl (by decide) (by omega) (.slice A4 lt.length c4) lt (j : Int) [.int .i64 j] (fun k => oki k ∨ wr.heap.size ≤ k) (fun _ => False) rfl rfl ?aP (fun _ hk => hk.elim) ?aF ?aO ?aB ?aS ?aL ?_; (case aP => exact rfl); (case aB => exact hBq.out); (case aF => exact fun k hk => .inr (by simpa using hk)); (case aO => exact Kd.R_mono hR.out (fun _ hk => .inl hk)); (case aS => exact below_size hBq.out); (case aL => have := hlenb.out; omega); intro v1 w1 ho hb hg hat; have hput := Aside0.mk (LL.put (N := wr.heap.size) hH.out ht (by rw [hlt0.out]; exact hR.out) hg ho (Nat.le_refl _)); have hX5 := Aside0.mk (blk_grown hXq.out hg (Kd.R_ne hR.out hXq.out (by decide))); have hB5 := Aside0.mk hb; have hx5 := hput.out.2.1; have hf5 := hput.out.2.2.1; obtain ⟨A5, c5, rfl⟩ := Kd.R_slice ho; simp only [List.length_append, List.length_cons, List.length_nil, Nat.zero_add] at hput; clear ho hb hg hat))))
              exact ⟨⟨q + 1, by omega, by go_num, ⟨by rw [hst2.out]; exact hput.out.1⟩, ⟨blk_grown hX5.out hput.out.2.2.2 (by intro e; injection e with e; exact hgX.out e)⟩, ⟨hB5.out.setCell hgb _⟩⟩, by simp [intOf]; omega⟩
          · have hst2 : Aside0 (rowP L0 (j : Int) (b.f3.take (q + 1)) = L) := ⟨by
              rw [hst.out]
              unfold stepP
              rw [if_neg]
              rw [hLl.out]
              exact hyr⟩
            have hy2 : y < 0 ∨ (0 ≤ y ∧ (bs.length : Int) ≤ y) := by omega
            clear hst hin1 hLl hyr
            rcases hy2 with hy2 | ⟨hy2, hy3⟩
            all_goals
              go_wp2
              exact ⟨⟨q + 1, by omega, by go_num, ⟨by rw [hst2.out]; exact hSq.out⟩, hXq, hBq⟩, by simp [intOf]; omega⟩
        · obtain rfl : q = b.f3.length := by omega
          rw [List.take_length] at hSq
          go_wp2
          exact ⟨⟨j + 1, by omega, by go_num, ⟨by rw [hnext.out]; exact hSq.out⟩, hXq, hBq⟩, by simp [intOf]; omega⟩
    · obtain rfl : j = bs.length := by omega
      have k4 : wr.cell? ⟨w.heap.size, 4, none⟩ = some (.slice A bs.length c) := (blk_cell hX2.out 4).trans rfl
      go_wp2
      go_ret
      exact ⟨_, rfl, hS2.out, hB2.out⟩
end Go.Proofs.Ytidhkicpandmbaa.IrA
