/- The reference's Func. -/
import Derived.Test.YtidhkicpandmbaaIrK
namespace Go.Proofs.Ytidhkicpandmbaa.IrA
open Go.RowKit Go.Proofs.YtidhkicpandmbaaW.PrintWords Go.Proofs.YtidhkicpandmbaaW.PrintLast Go.Proofs.YtidhkicpandmbaaW.PrintMore Go.Proofs.Ytidhkicpandmbaa.GF
set_option linter.unusedVariables false
set_option linter.unusedSimpArgs false
variable {w : World} {A0 A2 A8 : Option Addr} {n0 c0 n2 c2 c8 : Nat} {glob main pa re sl : Int} {nm : ByteArray} {fs : List S28} {bs : List S39}

def codeR (re : Int) (fs : List S28) (glob sl : Int) (ps : List (List Int)) (blk : Nat) (l : List S64) (q : Nat) : Bool := (List.range q).all (okR re fs glob sl ps blk l)
def blocksR (re : Int) (fs : List S28) (glob sl : Int) (bs : List S39) (j : Nat) : Bool := (List.range j).all fun i => codeR re fs glob sl (predsP bs) i (bs.getD i z39).f0 (bs.getD i z39).f0.length && endB re bs.length (bs.getD i z39)
def funcR (fs : List S28) (glob pa re sl : Int) (bs : List S39) : Bool :=
  sizesB pa re sl bs && (decide (sumTo bs bs.length ≤ 65536) && (((predsP bs).getD 0 []).length == 0 && blocksR re fs glob sl bs bs.length))
theorem all_and (p q : Nat → Bool) (n : Nat) : (List.range n).all (fun i => p i && q i) = ((List.range n).all p && (List.range n).all q) := by
  rw [Bool.eq_iff_iff]
  simp only [List.all_eq_true, Bool.and_eq_true]
  constructor
  · exact fun h => ⟨fun i hi => (h i hi).1, fun i hi => (h i hi).2⟩
  · exact fun h i hi => ⟨h.1 i hi, h.2 i hi⟩
theorem funcR_eq (fs : List S28) (glob pa re sl : Int) (bs : List S39) : funcR fs glob pa re sl bs = checkB fs glob pa re sl bs := by
  have h1 : ∀ ps blk l q, okR re fs glob sl ps blk l q = okAt re fs glob sl ps blk l q := fun ps blk l q => (isB_rinB re fs glob sl _ ps blk rfl _ _).symm
  have h2 : ∀ ps blk l q, codeR re fs glob sl ps blk l q = codeTo re fs glob sl ps blk l q := fun ps blk l q => by unfold codeR codeTo; congr 1; funext q; exact h1 _ _ _ _
  have h3 : blocksR re fs glob sl bs bs.length = (codesB re fs glob sl bs bs.length && endsTo re bs bs.length) := by
    unfold blocksR codesB endsTo
    rw [all_and]
    congr 2
    funext i
    exact h2 _ _ _ _
  unfold funcR checkB
  rw [h3]
  cases sizesB pa re sl bs <;> cases endsTo re bs bs.length <;> cases decide (sumTo bs bs.length ≤ 65536) <;> cases (((predsP bs).getD 0 []).length == 0) <;> cases codesB re fs glob sl bs bs.length <;> rfl

set_option maxHeartbeats 16000000 in
set_option maxRecDepth 100000 in
theorem func_no (h : sizesB pa re sl bs = false) (hmx : bs.length ≤ 9223372036854775807) : Calls Try.prog 10 #[pv A0 n0 c0 glob A2 n2 c2 main, fv nm pa re sl A8 bs.length c8] w (RetB (.bool false) w) := by
  have hB : Aside0 (Below w.heap.size w ((w.alloc (pb A0 n0 c0 glob A2 n2 c2 main)).alloc (fb nm pa re sl A8 bs.length c8))) := ⟨below_alloc (below_alloc (Below.refl _ _) _) _⟩
  by_cases k1 : bs.length < 1
  · have q : decide ((bs.length : Int) < 1) = true := decide_eq_true (by omega)
    clear h
    go_enter Try.func10, Try.ntmps10
    go_wp2
    go_ret
    exact ⟨rfl, hB.out⟩
  have q1 : decide ((bs.length : Int) < 1) = false := decide_eq_false (by omega)
  by_cases k2 : 4096 < bs.length
  · have q : decide ((4096 : Int) < (bs.length : Int)) = true := decide_eq_true (by omega)
    have q' : decide (4096 < bs.length) = true := decide_eq_true (by omega)
    clear h
    go_enter Try.func10, Try.ntmps10
    go_wp2
    go_ret
    exact ⟨rfl, hB.out⟩
  have q2 : decide ((4096 : Int) < (bs.length : Int)) = false := decide_eq_false (by omega)
  by_cases k3 : pa < 0
  · clear h
    go_enter Try.func10, Try.ntmps10
    go_wp2
    go_ret
    exact ⟨rfl, hB.out⟩
  by_cases k4 : 12 < pa
  · clear h
    go_enter Try.func10, Try.ntmps10
    go_wp2
    go_ret
    exact ⟨rfl, hB.out⟩
  by_cases k5 : re < pa
  · clear h
    go_enter Try.func10, Try.ntmps10
    go_wp2
    go_ret
    exact ⟨rfl, hB.out⟩
  by_cases k6 : 65536 < re
  · clear h
    go_enter Try.func10, Try.ntmps10
    go_wp2
    go_ret
    exact ⟨rfl, hB.out⟩
  by_cases k7 : sl < 0
  · clear h
    go_enter Try.func10, Try.ntmps10
    go_wp2
    go_ret
    exact ⟨rfl, hB.out⟩
  by_cases k8 : 65536 < sl
  · clear h
    go_enter Try.func10, Try.ntmps10
    go_wp2
    go_ret
    exact ⟨rfl, hB.out⟩
  have h9 : ¬ (sl % 4 = 0) := by
    intro e
    have : sizesB pa re sl bs = true := by unfold sizesB wi; simp [e]; omega
    rw [h] at this
    cases this
  have h5 : (sl % 4 != 0) = true := bne_iff_ne.mpr h9
  have s0 : 0 ≤ sl := by omega
  have s1 : sl ≤ 65536 := by omega
  clear h
  go_enter Try.func10, Try.ntmps10
  go_wp2
  go_ret
  exact ⟨rfl, hB.out⟩

set_option maxHeartbeats 16000000 in
set_option maxRecDepth 100000 in
theorem func_yes (h : sizesB pa re sl bs = true) (hgd : Aside0 (∀ b ∈ bs, gd39 b)) (hn : fs.length = n0) (hf : Aside0 (Kd.C k28 w A0 n0 fs)) (hb : Aside0 (Kd.C k39 w A8 bs.length bs)) :
    Calls Try.prog 10 #[pv A0 n0 c0 glob A2 n2 c2 main, fv nm pa re sl A8 bs.length c8] w (RetB (.bool (funcR fs glob pa re sl bs)) w) := by
  have hfin : Aside0 (funcR fs glob pa re sl bs = (decide (sumTo bs bs.length ≤ 65536) && (((predsP bs).getD 0 []).length == 0 && blocksR re fs glob sl bs bs.length))) := ⟨by unfold funcR; rw [h]; rfl⟩
  have hs : (1 ≤ bs.length ∧ bs.length ≤ 4096) ∧ (0 ≤ pa ∧ pa ≤ 12) ∧ (pa ≤ re ∧ re ≤ 65536) ∧ (0 ≤ sl ∧ sl ≤ 65536) ∧ sl % 4 = 0 := by unfold sizesB wi at h; simp at h; omega
  obtain ⟨⟨n1, n4⟩, ⟨pa0, pa1⟩, ⟨re0, re1⟩, ⟨sl0, sl1⟩, hs9⟩ := hs
  have h6 : (sl % 4 != 0) = false := by simp [hs9]
  have g1 : decide ((bs.length : Int) < 1) = false := decide_eq_false (by omega)
  have g2 : decide ((4096 : Int) < (bs.length : Int)) = false := decide_eq_false (by omega)
  have g3 : decide (4096 < bs.length) = false := decide_eq_false (by omega)
  clear h hs9
  have hB1 : Aside0 (Below w.heap.size w ((w.alloc (pb A0 n0 c0 glob A2 n2 c2 main)).alloc (fb nm pa re sl A8 bs.length c8))) := ⟨below_alloc (below_alloc (Below.refl _ _) _) _⟩
  have hP1 : Aside0 (((w.alloc (pb A0 n0 c0 glob A2 n2 c2 main)).alloc (fb nm pa re sl A8 bs.length c8)).heap[w.heap.size]? = some (pb A0 n0 c0 glob A2 n2 c2 main)) := ⟨blk_alloc (blk_new w _) _⟩
  have hF1 : Aside0 (((w.alloc (pb A0 n0 c0 glob A2 n2 c2 main)).alloc (fb nm pa re sl A8 bs.length c8)).heap[w.heap.size + 1]? = some (fb nm pa re sl A8 bs.length c8)) := ⟨by have := blk_new (w.alloc (pb A0 n0 c0 glob A2 n2 c2 main)) (fb nm pa re sl A8 bs.length c8); simp only [World.size_alloc] at this; exact this⟩
  have hsum0 : Aside0 (sumTo bs 0 = 0) := ⟨rfl⟩
  go_enter Try.func10, Try.ntmps10
  go_wp2
  generalize hW0 : (w.alloc (pb A0 n0 c0 glob A2 n2 c2 main)).alloc (fb nm pa re sl A8 bs.length c8) = W0 at *
  clear hW0
  have y4 : W0.cell? ⟨w.heap.size + 1, 4, none⟩ = some (.slice A8 bs.length c8) := (blk_cell hF1.out 4).trans rfl
  go_loopw [5, 6] (fun s i wr => ∃ j : Nat, j ≤ bs.length ∧ i = .int .i64 j ∧ s = .int .i64 (sumTo bs j : Nat) ∧ W0 = wr) (fun _ i _ => bs.length - (intOf i).toNat)
  case atStart => exact ⟨0, by omega, rfl, rfl, by first | trivial | rfl⟩
  case round =>
    obtain ⟨j, hj, rfl, rfl, rfl⟩ := hrel
    have hsl := sumTo_le bs hgd.out j hj
    by_cases hlt : j < bs.length
    · obtain ⟨ad, B0, d0, B3, d3, e, x0, x1, x2, x3, l0, g0, l3, g3'⟩ := at_T39 hb.out (j : Int) (by omega) (by omega)
      cases e
      simp only [Int.toNat_natCast] at x0
      replace x0 := (hB1.out.cell (World.block_lt_of_cell? w _ x0)).trans x0
      have hss := sumTo_succ bs j hlt
      have hgb := (hgd.out (bs.getD j z39) (getD_mem bs z39 j hlt)).1
      rw [T58_nat] at x0
      generalize bs.getD j z39 = b at *
      clear x1 x2 x3 l0 g0 l3 g3'
      replace hss := Aside0.mk hss
      have hwr : ((sumTo bs j : Nat) : Int) + (b.f0.length : Int) ≤ 9223372036854775807 := by omega
      go_wp2
      exact ⟨⟨j + 1, by omega, by go_num, by rw [hss.out]; go_num, by first | trivial | rfl⟩, by simp [intOf]; omega⟩
    · obtain rfl : j = bs.length := by omega
      clear hsum0 y4
      have y0 : W0.cell? ⟨w.heap.size + 1, 0, none⟩ = some (.string nm) := (blk_cell hF1.out 0).trans rfl
      have y1 : W0.cell? ⟨w.heap.size + 1, 1, none⟩ = some (.int .i64 pa) := (blk_cell hF1.out 1).trans rfl
      have y2 : W0.cell? ⟨w.heap.size + 1, 2, none⟩ = some (.int .i64 re) := (blk_cell hF1.out 2).trans rfl
      have y3 : W0.cell? ⟨w.heap.size + 1, 3, none⟩ = some (.int .i64 sl) := (blk_cell hF1.out 3).trans rfl
      have y4 : W0.cell? ⟨w.heap.size + 1, 4, none⟩ = some (.slice A8 bs.length c8) := (blk_cell hF1.out 4).trans rfl
      generalize hS : sumTo bs bs.length = S at *
      replace hS := Aside0.mk hS
      by_cases hs6 : S ≤ 65536
      · have hfin2 : Aside0 (funcR fs glob pa re sl bs = (((predsP bs).getD 0 []).length == 0 && blocksR re fs glob sl bs bs.length)) := ⟨by rw [hfin.out]; simp [hs6]⟩
        clear hfin
        go_wp2_with fail
        (with_reducible refine (rpreds nm pa re sl A8 c8 bs ⟨Kd.C_below hb.out hB1.out⟩ (by omega)).mono ?_)
        rintro e W6 ⟨v, rfl, hL, hb5⟩
        have hP6 := Aside0.mk ((hb5.block _ (blk_lt hP1.out)).trans hP1.out)
        have hF6 := Aside0.mk ((hb5.block _ (blk_lt hF1.out)).trans hF1.out)
        have hB6 := Aside0.mk (below_step hB1.out hb5)
        have hPl : (predsP bs).length = bs.length := predsTo_length bs _
        obtain ⟨A9, c9, e9⟩ := Kd.S_slice hL
        rw [hPl] at e9
        subst e9
        have hC6 := Aside0.mk (Kd.S_reads' hL).2.2
        obtain ⟨gO, cO', eO, hgb, hgl, cells, hgo⟩ := Kd.S_form hL (by rw [hPl]; omega)
        rw [hPl] at eO
        cases eO
        clear hL hb5 hP1 hF1 hB1 y0 y1 y2 y3 y4 hgo hs6 hsl
        obtain ⟨ad9, B9, d9, e9, z0, _, _⟩ := atL hC6.out 0 (by omega)
        cases e9
        have hap := add_plain gO 0
        rw [hap] at z0
        replace hPl := Aside0.mk hPl
        generalize hP0 : ((predsP bs).getD 0 []).length = p0 at *
        replace hP0 := Aside0.mk hP0
        by_cases hp : p0 = 0
        · have hp1 : decide ((0 : Int) < (p0 : Int)) = false := by simp [hp]
          have hp2 : decide (0 < p0) = false := by simp [hp]
          have hfin3 : Aside0 (funcR fs glob pa re sl bs = blocksR re fs glob sl bs bs.length) := ⟨by rw [hfin2.out, hp]; rfl⟩
          clear hp hfin2
          go_wp2
          clear z0 hp1 hp2
          go_loopw [8] (fun i wr => ∃ j : Nat, j ≤ bs.length ∧ i = .int .i64 j ∧ Aside0 (Below W6.heap.size W6 wr) ∧ Aside0 (blocksR re fs glob sl bs j = true)) (fun i _ => bs.length - (intOf i).toNat)
          case atStart => exact ⟨0, by omega, rfl, ⟨Below.refl _ _⟩, ⟨rfl⟩⟩
          case round =>
            obtain ⟨j, hj, rfl, hW, hK⟩ := hrel
            have y4 : wr.cell? ⟨w.heap.size + 1, 4, none⟩ = some (.slice A8 bs.length c8) := (blk_cell ((hW.out.block _ (blk_lt hF6.out)).trans hF6.out) 4).trans rfl
            by_cases hlt : j < bs.length
            · obtain ⟨ad, B0, d0, B3, d3, e, x0, x1, x2, x3, l0, g0, l3, g3'⟩ := at_T39 hb.out (j : Int) (by omega) (by omega)
              cases e
              simp only [Int.toNat_natCast] at x0 x1 x2 x3
              have bw := below_step hB6.out hW.out
              replace x0 := (bw.cell (World.block_lt_of_cell? w _ x0)).trans x0
              replace x1 := (bw.cell (World.block_lt_of_cell? w _ x1)).trans x1
              replace x2 := (bw.cell (World.block_lt_of_cell? w _ x2)).trans x2
              replace x3 := (bw.cell (World.block_lt_of_cell? w _ x3)).trans x3
              have hgb := (hgd.out (bs.getD j z39) (getD_mem bs z39 j hlt)).2
              have hcs := range_all (fun i => codeR re fs glob sl (predsP bs) i (bs.getD i z39).f0 (bs.getD i z39).f0.length && endB re bs.length (bs.getD i z39)) j
              have hcno := range_no (p := fun i => codeR re fs glob sl (predsP bs) i (bs.getD i z39).f0 (bs.getD i z39).f0.length && endB re bs.length (bs.getD i z39)) hlt
              rw [T58_nat] at x0 x1 x2 x3 l0 g0 l3 g3'
              try dsimp only at hcs hcno
              generalize bs.getD j z39 = b at *
              replace hgb := Aside0.mk hgb
              replace g0 := Aside0.mk g0
              replace g3' := Aside0.mk g3'
              have hmx := Kd.C_max g0.out
              have hW2 := Aside0.mk (below_step hW.out (below_alloc (Below.refl wr.heap.size wr) (bb b B0 B3 d0 d3)))
              have hY2 := Aside0.mk (blk_new wr (bb b B0 B3 d0 d3))
              replace hcs := Aside0.mk hcs
              replace hcno := Aside0.mk hcno
              clear l0 l3 bw hW
              go_wp2
              clear x0 x1 x2 x3 y4
              generalize wr.heap.size = Y at *
              go_loopw [10, 11] (fun s i wq => ∃ q : Nat, q ≤ b.f0.length ∧ i = .int .i64 q ∧ s = .bool (ahead b.f0 q) ∧ Aside0 (Below W6.heap.size W6 wq) ∧ Aside0 (wq.heap[Y]? = some (bb b B0 B3 d0 d3)) ∧ Aside0 (codeR re fs glob sl (predsP bs) j b.f0 q = true)) (fun _ i _ => b.f0.length - (intOf i).toNat)
              case atStart => exact ⟨0, by omega, rfl, rfl, hW2, hY2, ⟨rfl⟩⟩
              case round =>
                obtain ⟨q, hq, rfl, rfl, hQ, hYq, hC⟩ := hrel
                clear hW2 hY2
                have v0 : wr.cell? ⟨Y, 0, none⟩ = some (.slice B0 b.f0.length d0) := (blk_cell hYq.out 0).trans rfl
                by_cases hqt : q < b.f0.length
                · obtain ⟨a4, B2, e2, B6, e6, e, u0, u1, u2, u3, u4, u5, u6, m2, M2, m6, M6⟩ := at_T64 g0.out (q : Int) (by omega) (by omega)
                  cases e
                  simp only [Int.toNat_natCast] at u0 u1 u2 u3 u4 u5 u6
                  have bw := below_step hB6.out hQ.out
                  replace u0 := (bw.cell (World.block_lt_of_cell? w _ u0)).trans u0
                  replace u1 := (bw.cell (World.block_lt_of_cell? w _ u1)).trans u1
                  replace u2 := (bw.cell (World.block_lt_of_cell? w _ u2)).trans u2
                  replace u3 := (bw.cell (World.block_lt_of_cell? w _ u3)).trans u3
                  replace u4 := (bw.cell (World.block_lt_of_cell? w _ u4)).trans u4
                  replace u5 := (bw.cell (World.block_lt_of_cell? w _ u5)).trans u5
                  replace u6 := (bw.cell (World.block_lt_of_cell? w _ u6)).trans u6
                  have hok : okR re fs glob sl (predsP bs) j b.f0 q = (rinB re fs glob sl (b.f0.getD q z64) && !((b.f0.getD q z64).f0 == 12 && (!ahead b.f0 q || (!((b.f0.getD q z64).f6 == (predsP bs).getD j []) || (b.f0.getD q z64).f2.length != (b.f0.getD q z64).f6.length)))) := rfl
                  have hstp := range_all (okR re fs glob sl (predsP bs) j b.f0) q
                  have hno := range_no (p := okR re fs glob sl (predsP bs) j b.f0) hqt
                  have hah := ahead_succ b.f0 q hqt
                  have hgx := hgb.out _ (getD_mem b.f0 z64 q hqt)
                  rw [T44_nat] at u0 u1 u2 u3 u4 u5 u6 m2 M2 m6 M6
                  generalize b.f0.getD q z64 = x at *
                  obtain ⟨gx0, gx1⟩ := hgx
                  have bA := below_alloc (Below.refl wr.heap.size wr) (ib x B2 B6 e2 e6)
                  have bw2 := below_step bw bA
                  have bq2 := below_step hQ.out bA
                  have hin := Aside0.mk (rinstr (w := wr.alloc (ib x B2 B6 e2 e6)) (A0 := A0) (A2 := A2) (A8 := some ad) (n0 := n0) (c0 := c0) (n2 := n2) (c2 := c2) (c8 := c8) (glob := glob) (main := main) (pa := pa) (re := re) (sl := sl) (nm := nm) (fs := fs) bs.length x B2 B6 e2 e6 gx0 gx1 hn ⟨Kd.C_below hf.out bw2⟩ ⟨Kd.C_below M2 bw2⟩)
                  have hI := Aside0.mk (blk_new wr (ib x B2 B6 e2 e6))
                  have hQ2 := Aside0.mk bq2
                  have hYq2 := Aside0.mk (blk_alloc hYq.out (ib x B2 B6 e2 e6))
                  have M2' := Aside0.mk (Kd.C_below M2 bw2)
                  have M6' := Aside0.mk (Kd.C_below M6 bw2)
                  have hP7 := Aside0.mk ((bq2.block _ (blk_lt hP6.out)).trans hP6.out)
                  have hF7 := Aside0.mk ((bq2.block _ (blk_lt hF6.out)).trans hF6.out)
                  have C7 := Aside0.mk (Kd.C_below hC6.out bq2)
                  have z0 : (wr.alloc (ib x B2 B6 e2 e6)).cell? ⟨w.heap.size, 0, none⟩ = some (.slice A0 n0 c0) := (blk_cell hP7.out 0).trans rfl
                  have z1 : (wr.alloc (ib x B2 B6 e2 e6)).cell? ⟨w.heap.size, 1, none⟩ = some (.int .i64 glob) := (blk_cell hP7.out 1).trans rfl
                  have z2 : (wr.alloc (ib x B2 B6 e2 e6)).cell? ⟨w.heap.size, 2, none⟩ = some (.slice A2 n2 c2) := (blk_cell hP7.out 2).trans rfl
                  have z3 : (wr.alloc (ib x B2 B6 e2 e6)).cell? ⟨w.heap.size, 3, none⟩ = some (.int .i64 main) := (blk_cell hP7.out 3).trans rfl
                  have y0 : (wr.alloc (ib x B2 B6 e2 e6)).cell? ⟨w.heap.size + 1, 0, none⟩ = some (.string nm) := (blk_cell hF7.out 0).trans rfl
                  have y1 : (wr.alloc (ib x B2 B6 e2 e6)).cell? ⟨w.heap.size + 1, 1, none⟩ = some (.int .i64 pa) := (blk_cell hF7.out 1).trans rfl
                  have y2 : (wr.alloc (ib x B2 B6 e2 e6)).cell? ⟨w.heap.size + 1, 2, none⟩ = some (.int .i64 re) := (blk_cell hF7.out 2).trans rfl
                  have y3 : (wr.alloc (ib x B2 B6 e2 e6)).cell? ⟨w.heap.size + 1, 3, none⟩ = some (.int .i64 sl) := (blk_cell hF7.out 3).trans rfl
                  have y4 : (wr.alloc (ib x B2 B6 e2 e6)).cell? ⟨w.heap.size + 1, 4, none⟩ = some (.slice (some ad) bs.length c8) := (blk_cell hF7.out 4).trans rfl
                  have hlI : wr.heap.size < (wr.alloc (ib x B2 B6 e2 e6)).heap.size := by simp
                  clear M2 M6 bw bA bw2 bq2 hQ
                  generalize hiv : rinB re fs glob sl x = iv at *
                  cases iv
                  · have hres : Aside0 (funcR fs glob pa re sl bs = false) := ⟨by
                      rw [hfin3.out]
                      exact hcno.out (by rw [show codeR re fs glob sl (predsP bs) j b.f0 b.f0.length = false from hno (by rw [hok]; rfl)]; rfl)⟩
                    clear hok hstp hno hah hcs hcno hiv
                    go_wp2_with fail
                    (with_reducible refine hin.out.mono ?_)
                    rintro e w7 ⟨rfl, b7⟩
                    have hQ7 := Aside0.mk (below_step hQ2.out b7)
                    clear b7
                    go_wp2
                    go_ret
                    rw [hres.out]
                    exact ⟨rfl, below_step hB6.out hQ7.out⟩
                  · go_wp2_with fail
                    (with_reducible refine hin.out.mono ?_)
                    rintro e w7 ⟨rfl, b7⟩
                    have hQ7 := Aside0.mk (below_step hQ2.out b7)
                    have hI7 := (b7.block _ (blk_lt hI.out)).trans hI.out
                    have hY7 := Aside0.mk ((b7.block _ (blk_lt hYq2.out)).trans hYq2.out)
                    have M6'' := Aside0.mk (Kd.C_below M6'.out b7)
                    have C7' := Aside0.mk (Kd.C_below C7.out b7)
                    have t0 : w7.cell? ⟨wr.heap.size, 0, none⟩ = some (.int .i64 x.f0) := (blk_cell hI7 0).trans rfl
                    have t2 : w7.cell? ⟨wr.heap.size, 2, none⟩ = some (.slice B2 x.f2.length e2) := (blk_cell hI7 2).trans rfl
                    have t6 : w7.cell? ⟨wr.heap.size, 6, none⟩ = some (.slice B6 x.f6.length e6) := (blk_cell hI7 6).trans rfl
                    clear b7 hI7 hI hYq2 hQ2 hYq M2' M6' C7 hP7 hF7 z0 z1 z2 z3 y0 y1 y2 y3 y4 hin v0 u0 u1 u2 u3 u4 u5 u6 m2
                    obtain ⟨ad9, B9, d9, e9, z0, l9, C9⟩ := atL C7'.out j (by rw [hPl.out]; exact hlt)
                    cases e9
                    have hap := add_plain gO j
                    rw [hap] at z0
                    have C9 := Aside0.mk C9
                    generalize (predsP bs).getD j [] = pr at *
                    go_upto_region 24 with (fail)
                    go_cut [140] (fun s140 wx => s140 = .bool (x.f0 == 12 && (!ahead b.f0 q || (!(x.f6 == pr) || x.f2.length != x.f6.length))) ∧ Aside0 (∃ n, wx = w7.drewN n))
                    case first =>
                      clear hok hstp hno hah hcs hcno
                      generalize ahead b.f0 q = av at *
                      cases h12 : (x.f0 == 12)
                      · go_quiet (fail)
                        go_wp2_with fail
                        go_meet
                        exact ⟨by rw [h12]; rfl, ⟨_, rfl⟩⟩
                      · cases av
                        · go_quiet (fail)
                          go_wp2_with fail
                          go_meet
                          exact ⟨by rw [h12]; rfl, ⟨_, rfl⟩⟩
                        · have hsame := Aside0.mk (fun n => rsame (w := w7.drewN n) (c := e6) (d := d9) ⟨Kd.C_below M6''.out (bdn (Below.refl _ _) n)⟩ ⟨Kd.C_below C9.out (bdn (Below.refl _ _) n)⟩)
                          generalize hsv : (x.f6 == pr) = sv at *
                          cases sv
                          all_goals
                            cases hlv : (x.f2.length != x.f6.length)
                          all_goals
                            have hlv2 : ((x.f2.length : Int) != (x.f6.length : Int)) = (x.f2.length != x.f6.length) := by rw [Bool.eq_iff_iff]; simp; omega
                            rw [hlv] at hlv2
                            go_quiet ((go_at_call 32; exact Calls.quiet_of (hsame.out _)))
                            go_wp2_with fail
                            go_meet
                            exact ⟨by rw [h12, hlv]; rfl, ⟨_, rfl⟩⟩
                    case rest =>
                      obtain ⟨rfl, hdr⟩ := hcut
                      obtain ⟨nd, rfl⟩ := hdr.out
                      clear hdr
                      have hQ8 := Aside0.mk (bdn hQ7.out nd)
                      have hY8 : Aside0 ((w7.drewN nd).heap[Y]? = some (bb b (some a4) B3 d0 d3)) := ⟨hY7.out⟩
                      have t0' : (w7.drewN nd).cell? ⟨wr.heap.size, 0, none⟩ = some (.int .i64 x.f0) := t0
                      clear hQ7 hY7 t0 t2 t6 z0 l9 C9 M6'' C7'
                      generalize w7.drewN nd = w8 at *
                      have hok2 : Aside0 (okR re fs glob sl (predsP bs) j b.f0 q = !(x.f0 == 12 && (!ahead b.f0 q || (!(x.f6 == pr) || x.f2.length != x.f6.length)))) := ⟨by rw [hok]; rfl⟩
                      have hahc : Aside0 ((x.f0 == 12 && (!ahead b.f0 q || (!(x.f6 == pr) || x.f2.length != x.f6.length))) = false → x.f0 = 12 → ahead b.f0 q = true) := ⟨fun h e => by rw [e] at h; cases hq : ahead b.f0 q <;> simp [hq] at h ⊢⟩
                      generalize (x.f0 == 12 && (!ahead b.f0 q || (!(x.f6 == pr) || x.f2.length != x.f6.length))) = C at *
                      cases C
                      · have hC2 : Aside0 (codeR re fs glob sl (predsP bs) j b.f0 (q + 1) = true) := ⟨by
                          have h := hC.out
                          unfold codeR at h ⊢
                          rw [hstp, h, hok2.out]
                          rfl⟩
                        have hah2 := Aside0.mk hah
                        clear hok hstp hno hah hcs hcno hok2 hahc
                        generalize ahead b.f0 q = av at *
                        cases av
                        all_goals
                          go_wp2
                          exact ⟨⟨q + 1, by omega, by go_num, by rw [hah2.out]; rfl, hQ8, hY8, hC2⟩, by simp [intOf]; omega⟩
                      · have hres : Aside0 (funcR fs glob pa re sl bs = false) := ⟨by
                          rw [hfin3.out]
                          exact hcno.out (by rw [show codeR re fs glob sl (predsP bs) j b.f0 b.f0.length = false from hno (by rw [hok2.out]; rfl)]; rfl)⟩
                        clear hok hstp hno hah hcs hcno hok2 hahc
                        go_wp2
                        go_ret
                        rw [hres.out]
                        exact ⟨rfl, below_step hB6.out hQ8.out⟩
                · obtain rfl : q = b.f0.length := by omega
                  have v1 : wr.cell? ⟨Y, 1, none⟩ = some (.int .i64 b.f1) := (blk_cell hYq.out 1).trans rfl
                  have v2 : wr.cell? ⟨Y, 2, none⟩ = some (.int .i64 b.f2) := (blk_cell hYq.out 2).trans rfl
                  have v3 : wr.cell? ⟨Y, 3, none⟩ = some (.slice B3 b.f3.length d3) := (blk_cell hYq.out 3).trans rfl
                  have hF7 := (hQ.out.block _ (blk_lt hF6.out)).trans hF6.out
                  have y0 : wr.cell? ⟨w.heap.size + 1, 0, none⟩ = some (.string nm) := (blk_cell hF7 0).trans rfl
                  have y1 : wr.cell? ⟨w.heap.size + 1, 1, none⟩ = some (.int .i64 pa) := (blk_cell hF7 1).trans rfl
                  have y2 : wr.cell? ⟨w.heap.size + 1, 2, none⟩ = some (.int .i64 re) := (blk_cell hF7 2).trans rfl
                  have y3 : wr.cell? ⟨w.heap.size + 1, 3, none⟩ = some (.int .i64 sl) := (blk_cell hF7 3).trans rfl
                  have y4 : wr.cell? ⟨w.heap.size + 1, 4, none⟩ = some (.slice (some ad) bs.length c8) := (blk_cell hF7 4).trans rfl
                  have hen := Aside0.mk (rends (w := wr) nm pa re sl (some ad) bs.length c8 b B0 B3 d0 d3 (by omega) ⟨Kd.C_below g3'.out (below_step hB6.out hQ.out)⟩)
                  clear hF7
                  generalize hev : endB re bs.length b = ev at *
                  cases ev
                  · have hres : Aside0 (funcR fs glob pa re sl bs = false) := ⟨by rw [hfin3.out]; exact hcno.out (by rw [hC.out]; rfl)⟩
                    clear hcs hcno hev
                    go_wp2_with fail
                    (with_reducible refine hen.out.mono ?_)
                    rintro e w7 ⟨rfl, b7⟩
                    have hQ7 := Aside0.mk (below_step hQ.out b7)
                    clear b7
                    go_wp2
                    go_ret
                    rw [hres.out]
                    exact ⟨rfl, below_step hB6.out hQ7.out⟩
                  · have hK2 : Aside0 (blocksR re fs glob sl bs (j + 1) = true) := ⟨by have h := hK.out; unfold blocksR at h ⊢; rw [hcs.out, h, hC.out]; rfl⟩
                    clear hcs hcno hev
                    go_wp2_with fail
                    (with_reducible refine hen.out.mono ?_)
                    rintro e w7 ⟨rfl, b7⟩
                    have hQ7 := Aside0.mk (below_step hQ.out b7)
                    clear b7
                    go_wp2
                    exact ⟨⟨j + 1, by omega, by go_num, hQ7, hK2⟩, by simp [intOf]; omega⟩
            · obtain rfl : j = bs.length := by omega
              have hres : Aside0 (funcR fs glob pa re sl bs = true) := ⟨by rw [hfin3.out]; exact hK.out⟩
              go_wp2
              go_ret
              rw [hres.out]
              exact ⟨rfl, below_step hB6.out hW.out⟩
        · have hp1 : decide ((0 : Int) < (p0 : Int)) = true := by simp; omega
          have hp2 : decide (0 < p0) = true := by simp; omega
          have hres : Aside0 (funcR fs glob pa re sl bs = false) := ⟨by rw [hfin2.out, show (p0 == 0) = false by simp [hp]]; rfl⟩
          clear hp hfin2
          go_wp2
          go_ret
          rw [hres.out]
          exact ⟨rfl, hB6.out⟩
      · have hres : Aside0 (funcR fs glob pa re sl bs = false) := ⟨by rw [hfin.out, show decide (S ≤ 65536) = false by simp [hs6]]; rfl⟩
        have hs7 : 65536 < S := by omega
        clear hfin hs6
        go_wp2
        go_ret
        rw [hres.out]
        exact ⟨rfl, hB1.out⟩
end Go.Proofs.Ytidhkicpandmbaa.IrA
