/- A copy is like what it was made from, and has nothing in common with it. -/
import Derived.Deep.DeepCutAuto
import Derived.MapKept
import Derived.Deep.RegionHeld3
import Derived.Test.YtobikiffjanagaaRows
import Derived.WalkKit
import Derived.ProofKit
import Derived.OpenShut
import Derived.ShutString
import Derived.ChangeOld
import Derived.Below
import Derived.SizedLaws
import Derived.Carry
import Derived.Test.YtobikiffjanagaaCp4
section
namespace Go.Proofs.Ytobikiffjanagaa.IrA
open Go.RowKit Go.Proofs.YtobikiffjanagaaW.PrintWords Go.Proofs.YtobikiffjanagaaW.PrintLast Go.Proofs.YtobikiffjanagaaW.PrintMore Go.Proofs.Ytobikiffjanagaa.GF
set_option linter.unusedVariables false
set_option linter.unusedSimpArgs false
theorem alu3 (f4 : Int) : (!(true != wi f4 1 19 || (!true && f4 != 0))) = !((true && (decide (f4 < 1) || decide (19 < f4))) || (false && f4 != 0)) := by
  rw [Bool.eq_iff_iff]; simp [wi]
theorem aluN (f4 : Int) : (!(false != wi f4 1 19 || (!false && f4 != 0))) = !((false && (decide (f4 < 1) || decide (19 < f4))) || (true && f4 != 0)) := by
  rw [Bool.eq_iff_iff]; simp [wi]
  intro h; omega
/-- An instruction as_ the reference sees it, behind others. -/
def okR (re : Int) (fs : List S33) (glob sl : Int) (ps : List (List Int)) (blk : Nat) (l : List S44) (q : Nat) : Bool :=
  rinB re fs glob sl (l.getD q z44) && !((l.getD q z44).f0 == 12 && (!ahead l q || (!((l.getD q z44).f6 == ps.getD blk []) || (l.getD q z44).f2.length != (l.getD q z44).f6.length)))
theorem isB_rinB (re : Int) (fs : List S33) (glob sl : Int) (pr : List Int) (ps : List (List Int)) (blk : Nat) (hp : ps.getD blk [] = pr) (x : S44) (a : Bool) :
    (isB re fs glob sl ps blk x (pt x.f0) && !(x.f0 == 12 && !a)) = (rinB re fs glob sl x && !(x.f0 == 12 && (!a || (!(x.f6 == pr) || x.f2.length != x.f6.length)))) := by
  obtain ⟨op, f1, f2, f3, f4, f5, f6⟩ := x
  simp only [isB, rinB, argR, dstR, aluR, wideR, wdR, predR, dstB, hp]
  by_cases h : op = 1 ∨ op = 2 ∨ op = 3 ∨ op = 4 ∨ op = 5 ∨ op = 6 ∨ op = 7 ∨ op = 8 ∨ op = 9 ∨ op = 10 ∨ op = 11 ∨ op = 12
  · generalize hall : (f2.all fun r => wi r 0 (re - 1)) = al
    generalize hw : wi f1 0 (re - 1) = w1
    generalize hm : (f1 == -1) = m1
    have hm2 : (f1 != -1) = !m1 := by rw [← hm]; rfl
    generalize hx : (f6 == pr) = e6
    have hl6 : decide (0 < f6.length) = !(f6.length == 0) := by cases f6 <;> simp
    have h34 := alu3 f4
    have h3n := aluN f4
    rcases h with rfl | rfl | rfl | rfl | rfl | rfl | rfl | rfl | rfl | rfl | rfl | rfl
    all_goals
      simp [pt, rdn, hm2, hl6]
      try unfold wi
      try grind
  · rw [pt_no op h]
    rfl
end Go.Proofs.Ytobikiffjanagaa.IrA
end
section
namespace Go.Proofs.Ytobikiffjanagaa.IrA
open Go.RowKit Go.Proofs.YtobikiffjanagaaW.PrintWords Go.Proofs.YtobikiffjanagaaW.PrintLast Go.Proofs.YtobikiffjanagaaW.PrintMore Go.Proofs.Ytobikiffjanagaa.GF
set_option linter.unusedVariables false
set_option linter.unusedSimpArgs false
variable {w : World} {A0 A2 A8 : Option Addr} {n0 c0 n2 c2 c8 : Nat} {glob main pa re sl : Int} {nm : ByteArray} {fs : List S33} {bs : List S58}
def codeR (re : Int) (fs : List S33) (glob sl : Int) (ps : List (List Int)) (blk : Nat) (l : List S44) (q : Nat) : Bool := (List.range q).all (okR re fs glob sl ps blk l)
def blocksR (re : Int) (fs : List S33) (glob sl : Int) (bs : List S58) (j : Nat) : Bool := (List.range j).all fun i => codeR re fs glob sl (predsP bs) i (bs.getD i z58).f0 (bs.getD i z58).f0.length && endB re bs.length (bs.getD i z58)
def funcR (fs : List S33) (glob pa re sl : Int) (bs : List S58) : Bool :=
  sizesB pa re sl bs && (decide (sumTo bs bs.length ≤ 65536) && (((predsP bs).getD 0 []).length == 0 && blocksR re fs glob sl bs bs.length))
theorem all_and (p q : Nat → Bool) (n : Nat) : (List.range n).all (fun i => p i && q i) = ((List.range n).all p && (List.range n).all q) := by
  rw [Bool.eq_iff_iff]
  simp only [List.all_eq_true, Bool.and_eq_true]
  constructor
  · exact fun h => ⟨fun i hi => (h i hi).1, fun i hi => (h i hi).2⟩
  · exact fun h i hi => ⟨h.1 i hi, h.2 i hi⟩
theorem funcR_eq (fs : List S33) (glob pa re sl : Int) (bs : List S58) : funcR fs glob pa re sl bs = checkB fs glob pa re sl bs := by
  have h1 : ∀ ps blk l q, okR re fs glob sl ps blk l q = okAt re fs glob sl ps blk l q := fun ps blk l q => (isB_rinB re fs glob sl _ ps blk rfl _ _).symm
  have h2 : ∀ ps blk l q, codeR re fs glob sl ps blk l q = codeTo re fs glob sl ps blk l q := fun ps blk l q => by unfold codeR codeTo; congr 1; funext q; exact h1 _ _ _ _
  have h3 : blocksR re fs glob sl bs bs.length = (codesB re fs glob sl bs bs.length && endsTo re bs bs.length) := by
    unfold blocksR codesB endsTo
    rw [all_and]
    congr 2
    funext i
    exact h2 _ _ _ _
  unfold funcR checkB
  rw [h3]
  cases sizesB pa re sl bs <;> cases endsTo re bs bs.length <;> cases decide (sumTo bs bs.length ≤ 65536) <;> cases (((predsP bs).getD 0 []).length == 0) <;> cases codesB re fs glob sl bs bs.length <;> rfl
set_option maxHeartbeats 16000000 in
set_option maxRecDepth 100000 in
theorem func_no (h : sizesB pa re sl bs = false) (hmx : bs.length ≤ 9223372036854775807) : Calls Try.prog 13 #[pv A0 n0 c0 glob A2 n2 c2 main, fv nm pa re sl A8 bs.length c8] w (RetB (.bool false) w) := by
  have hB : Aside0 (Below w.heap.size w ((w.alloc (pb A0 n0 c0 glob A2 n2 c2 main)).alloc (fb nm pa re sl A8 bs.length c8))) := ⟨below_alloc (below_alloc (Below.refl _ _) _) _⟩
  by_cases k1 : bs.length < 1
  · have q : decide ((bs.length : Int) < 1) = true := decide_eq_true (by omega)
    clear h
    go_enter Try.func13, Try.ntmps13
    go_wp2
    go_ret
    exact ⟨rfl, hB.out⟩
  have q1 : decide ((bs.length : Int) < 1) = false := decide_eq_false (by omega)
  by_cases k2 : 4096 < bs.length
  · have q : decide ((4096 : Int) < (bs.length : Int)) = true := decide_eq_true (by omega)
    have q' : decide (4096 < bs.length) = true := decide_eq_true (by omega)
    clear h
    go_enter Try.func13, Try.ntmps13
    go_wp2
    go_ret
    exact ⟨rfl, hB.out⟩
  have q2 : decide ((4096 : Int) < (bs.length : Int)) = false := decide_eq_false (by omega)
  by_cases k3 : pa < 0
  · clear h
    go_enter Try.func13, Try.ntmps13
    go_wp2
    go_ret
    exact ⟨rfl, hB.out⟩
  by_cases k4 : 12 < pa
  · clear h
    go_enter Try.func13, Try.ntmps13
    go_wp2
    go_ret
    exact ⟨rfl, hB.out⟩
  by_cases k5 : re < pa
  · clear h
    go_enter Try.func13, Try.ntmps13
    go_wp2
    go_ret
    exact ⟨rfl, hB.out⟩
  by_cases k6 : 65536 < re
  · clear h
    go_enter Try.func13, Try.ntmps13
    go_wp2
    go_ret
    exact ⟨rfl, hB.out⟩
  by_cases k7 : sl < 0
  · clear h
    go_enter Try.func13, Try.ntmps13
    go_wp2
    go_ret
    exact ⟨rfl, hB.out⟩
  by_cases k8 : 65536 < sl
  · clear h
    go_enter Try.func13, Try.ntmps13
    go_wp2
    go_ret
    exact ⟨rfl, hB.out⟩
  have h9 : ¬ (sl % 4 = 0) := by
    intro e
    have : sizesB pa re sl bs = true := by unfold sizesB wi; simp [e]; omega
    rw [h] at this
    cases this
  have h5 : (sl % 4 != 0) = true := bne_iff_ne.mpr h9
  have s0 : 0 ≤ sl := by omega
  have s1 : sl ≤ 65536 := by omega
  clear h
  go_enter Try.func13, Try.ntmps13
  go_wp2
  go_ret
  exact ⟨rfl, hB.out⟩
set_option maxHeartbeats 16000000 in
set_option maxRecDepth 100000 in
theorem func_yes (h : sizesB pa re sl bs = true) (hgd : Aside0 (∀ b ∈ bs, gd58 b)) (hn : fs.length = n0) (hf : Aside0 (Kd.C k33 w A0 n0 fs)) (hb : Aside0 (Kd.C k58 w A8 bs.length bs)) :
    Calls Try.prog 13 #[pv A0 n0 c0 glob A2 n2 c2 main, fv nm pa re sl A8 bs.length c8] w (RetB (.bool (funcR fs glob pa re sl bs)) w) := by
  have hfin : Aside0 (funcR fs glob pa re sl bs = (decide (sumTo bs bs.length ≤ 65536) && (((predsP bs).getD 0 []).length == 0 && blocksR re fs glob sl bs bs.length))) := ⟨by unfold funcR; rw [h]; rfl⟩
  have hs : (1 ≤ bs.length ∧ bs.length ≤ 4096) ∧ (0 ≤ pa ∧ pa ≤ 12) ∧ (pa ≤ re ∧ re ≤ 65536) ∧ (0 ≤ sl ∧ sl ≤ 65536) ∧ sl % 4 = 0 := by unfold sizesB wi at h; simp at h; omega
  obtain ⟨⟨n1, n4⟩, ⟨pa0, pa1⟩, ⟨re0, re1⟩, ⟨sl0, sl1⟩, hs9⟩ := hs
  have h6 : (sl % 4 != 0) = false := by simp [hs9]
  have g1 : decide ((bs.length : Int) < 1) = false := decide_eq_false (by omega)
  have g2 : decide ((4096 : Int) < (bs.length : Int)) = false := decide_eq_false (by omega)
  have g3 : decide (4096 < bs.length) = false := decide_eq_false (by omega)
  clear h hs9
  have hB1 : Aside0 (Below w.heap.size w ((w.alloc (pb A0 n0 c0 glob A2 n2 c2 main)).alloc (fb nm pa re sl A8 bs.length c8))) := ⟨below_alloc (below_alloc (Below.refl _ _) _) _⟩
  have hP1 : Aside0 (((w.alloc (pb A0 n0 c0 glob A2 n2 c2 main)).alloc (fb nm pa re sl A8 bs.length c8)).heap[w.heap.size]? = some (pb A0 n0 c0 glob A2 n2 c2 main)) := ⟨blk_alloc (blk_new w _) _⟩
  have hF1 : Aside0 (((w.alloc (pb A0 n0 c0 glob A2 n2 c2 main)).alloc (fb nm pa re sl A8 bs.length c8)).heap[w.heap.size + 1]? = some (fb nm pa re sl A8 bs.length c8)) := ⟨by have := blk_new (w.alloc (pb A0 n0 c0 glob A2 n2 c2 main)) (fb nm pa re sl A8 bs.length c8); simp only [World.size_alloc] at this; exact this⟩
  have hsum0 : Aside0 (sumTo bs 0 = 0) := ⟨rfl⟩
  go_enter Try.func13, Try.ntmps13
  go_wp2
  generalize hW0 : (w.alloc (pb A0 n0 c0 glob A2 n2 c2 main)).alloc (fb nm pa re sl A8 bs.length c8) = W0 at *
  clear hW0
  have y4 : W0.cell? ⟨w.heap.size + 1, 4, none⟩ = some (.slice A8 bs.length c8) := (blk_cell hF1.out 4).trans rfl
  go_loopw [5, 6] (fun s i wr => ∃ j : Nat, j ≤ bs.length ∧ i = .int .i64 j ∧ s = .int .i64 (sumTo bs j : Nat) ∧ W0 = wr) (fun _ i _ => bs.length - (intOf i).toNat)
  case atStart => exact ⟨0, by omega, rfl, rfl, by first | trivial | rfl⟩
  case round =>
    obtain ⟨j, hj, rfl, rfl, rfl⟩ := hrel
    have hsl := sumTo_le bs hgd.out j hj
    by_cases hlt : j < bs.length
    · obtain ⟨ad, B0, d0, B3, d3, e, x0, x1, x2, x3, l0, g0, l3, g3'⟩ := at_T58 hb.out (j : Int) (by omega) (by omega)
      cases e
      simp only [Int.toNat_natCast] at x0
      replace x0 := (hB1.out.cell (World.block_lt_of_cell? w _ x0)).trans x0
      have hss := sumTo_succ bs j hlt
      have hgb := (hgd.out (bs.getD j z58) (getD_mem bs z58 j hlt)).1
      rw [T58_nat] at x0
      generalize bs.getD j z58 = b at *
      clear x1 x2 x3 l0 g0 l3 g3'
      replace hss := Aside0.mk hss
      have hwr : ((sumTo bs j : Nat) : Int) + (b.f0.length : Int) ≤ 9223372036854775807 := by omega
      go_wp2
      exact ⟨⟨j + 1, by omega, by go_num, by rw [hss.out]; go_num, by first | trivial | rfl⟩, by simp [intOf]; omega⟩
    · obtain rfl : j = bs.length := by omega
      clear hsum0 y4
      have y0 : W0.cell? ⟨w.heap.size + 1, 0, none⟩ = some (.string nm) := (blk_cell hF1.out 0).trans rfl
      have y1 : W0.cell? ⟨w.heap.size + 1, 1, none⟩ = some (.int .i64 pa) := (blk_cell hF1.out 1).trans rfl
      have y2 : W0.cell? ⟨w.heap.size + 1, 2, none⟩ = some (.int .i64 re) := (blk_cell hF1.out 2).trans rfl
      have y3 : W0.cell? ⟨w.heap.size + 1, 3, none⟩ = some (.int .i64 sl) := (blk_cell hF1.out 3).trans rfl
      have y4 : W0.cell? ⟨w.heap.size + 1, 4, none⟩ = some (.slice A8 bs.length c8) := (blk_cell hF1.out 4).trans rfl
      generalize hS : sumTo bs bs.length = S at *
      replace hS := Aside0.mk hS
      by_cases hs6 : S ≤ 65536
      · have hfin2 : Aside0 (funcR fs glob pa re sl bs = (((predsP bs).getD 0 []).length == 0 && blocksR re fs glob sl bs bs.length)) := ⟨by rw [hfin.out]; simp [hs6]⟩
        clear hfin
        go_wp2_with fail
        (with_reducible refine (rpreds nm pa re sl A8 c8 bs ⟨Kd.C_below hb.out hB1.out⟩ (by omega)).mono ?_)
        rintro e W6 ⟨v, rfl, hL, hb5⟩
        have hP6 := Aside0.mk ((hb5.block _ (blk_lt hP1.out)).trans hP1.out)
        have hF6 := Aside0.mk ((hb5.block _ (blk_lt hF1.out)).trans hF1.out)
        have hB6 := Aside0.mk (below_step hB1.out hb5)
        have hPl : (predsP bs).length = bs.length := predsTo_length bs _
        obtain ⟨A9, c9, e9⟩ := Kd.S_slice hL
        rw [hPl] at e9
        subst e9
        have hC6 := Aside0.mk (Kd.S_reads' hL).2.2
        obtain ⟨gO, cO', eO, hgb, hgl, cells, hgo⟩ := Kd.S_form hL (by rw [hPl]; omega)
        rw [hPl] at eO
        cases eO
        clear hL hb5 hP1 hF1 hB1 y0 y1 y2 y3 y4 hgo hs6 hsl
        obtain ⟨ad9, B9, d9, e9, z0, _, _⟩ := atL hC6.out 0 (by omega)
        cases e9
        have hap := add_plain gO 0
        rw [hap] at z0
        replace hPl := Aside0.mk hPl
        generalize hP0 : ((predsP bs).getD 0 []).length = p0 at *
        replace hP0 := Aside0.mk hP0
        by_cases hp : p0 = 0
        · have hp1 : decide ((0 : Int) < (p0 : Int)) = false := by simp [hp]
          have hp2 : decide (0 < p0) = false := by simp [hp]
          have hfin3 : Aside0 (funcR fs glob pa re sl bs = blocksR re fs glob sl bs bs.length) := ⟨by rw [hfin2.out, hp]; rfl⟩
          clear hp hfin2
          go_wp2
          clear z0 hp1 hp2
          go_loopw [8] (fun i wr => ∃ j : Nat, j ≤ bs.length ∧ i = .int .i64 j ∧ Aside0 (Below W6.heap.size W6 wr) ∧ Aside0 (blocksR re fs glob sl bs j = true)) (fun i _ => bs.length - (intOf i).toNat)
          case atStart => exact ⟨0, by omega, rfl, ⟨Below.refl _ _⟩, ⟨rfl⟩⟩
          case round =>
            obtain ⟨j, hj, rfl, hW, hK⟩ := hrel
            have y4 : wr.cell? ⟨w.heap.size + 1, 4, none⟩ = some (.slice A8 bs.length c8) := (blk_cell ((hW.out.block _ (blk_lt hF6.out)).trans hF6.out) 4).trans rfl
            by_cases hlt : j < bs.length
            · obtain ⟨ad, B0, d0, B3, d3, e, x0, x1, x2, x3, l0, g0, l3, g3'⟩ := at_T58 hb.out (j : Int) (by omega) (by omega)
              cases e
              simp only [Int.toNat_natCast] at x0 x1 x2 x3
              have bw := below_step hB6.out hW.out
              replace x0 := (bw.cell (World.block_lt_of_cell? w _ x0)).trans x0
              replace x1 := (bw.cell (World.block_lt_of_cell? w _ x1)).trans x1
              replace x2 := (bw.cell (World.block_lt_of_cell? w _ x2)).trans x2
              replace x3 := (bw.cell (World.block_lt_of_cell? w _ x3)).trans x3
              have hgb := (hgd.out (bs.getD j z58) (getD_mem bs z58 j hlt)).2
              have hcs := range_all (fun i => codeR re fs glob sl (predsP bs) i (bs.getD i z58).f0 (bs.getD i z58).f0.length && endB re bs.length (bs.getD i z58)) j
              have hcno := range_no (p := fun i => codeR re fs glob sl (predsP bs) i (bs.getD i z58).f0 (bs.getD i z58).f0.length && endB re bs.length (bs.getD i z58)) hlt
              rw [T58_nat] at x0 x1 x2 x3 l0 g0 l3 g3'
              try dsimp only at hcs hcno
              generalize bs.getD j z58 = b at *
              replace hgb := Aside0.mk hgb
              replace g0 := Aside0.mk g0
              replace g3' := Aside0.mk g3'
              have hmx := Kd.C_max g0.out
              have hW2 := Aside0.mk (below_step hW.out (below_alloc (Below.refl wr.heap.size wr) (bb b B0 B3 d0 d3)))
              have hY2 := Aside0.mk (blk_new wr (bb b B0 B3 d0 d3))
              replace hcs := Aside0.mk hcs
              replace hcno := Aside0.mk hcno
              clear l0 l3 bw hW
              go_wp2
              clear x0 x1 x2 x3 y4
              generalize wr.heap.size = Y at *
              go_loopw [10, 11] (fun s i wq => ∃ q : Nat, q ≤ b.f0.length ∧ i = .int .i64 q ∧ s = .bool (ahead b.f0 q) ∧ Aside0 (Below W6.heap.size W6 wq) ∧ Aside0 (wq.heap[Y]? = some (bb b B0 B3 d0 d3)) ∧ Aside0 (codeR re fs glob sl (predsP bs) j b.f0 q = true)) (fun _ i _ => b.f0.length - (intOf i).toNat)
              case atStart => exact ⟨0, by omega, rfl, rfl, hW2, hY2, ⟨rfl⟩⟩
              case round =>
                obtain ⟨q, hq, rfl, rfl, hQ, hYq, hC⟩ := hrel
                clear hW2 hY2
                have v0 : wr.cell? ⟨Y, 0, none⟩ = some (.slice B0 b.f0.length d0) := (blk_cell hYq.out 0).trans rfl
                by_cases hqt : q < b.f0.length
                · obtain ⟨a4, B2, e2, B6, e6, e, u0, u1, u2, u3, u4, u5, u6, m2, M2, m6, M6⟩ := at_T44 g0.out (q : Int) (by omega) (by omega)
                  cases e
                  simp only [Int.toNat_natCast] at u0 u1 u2 u3 u4 u5 u6
                  have bw := below_step hB6.out hQ.out
                  replace u0 := (bw.cell (World.block_lt_of_cell? w _ u0)).trans u0
                  replace u1 := (bw.cell (World.block_lt_of_cell? w _ u1)).trans u1
                  replace u2 := (bw.cell (World.block_lt_of_cell? w _ u2)).trans u2
                  replace u3 := (bw.cell (World.block_lt_of_cell? w _ u3)).trans u3
                  replace u4 := (bw.cell (World.block_lt_of_cell? w _ u4)).trans u4
                  replace u5 := (bw.cell (World.block_lt_of_cell? w _ u5)).trans u5
                  replace u6 := (bw.cell (World.block_lt_of_cell? w _ u6)).trans u6
                  have hok : okR re fs glob sl (predsP bs) j b.f0 q = (rinB re fs glob sl (b.f0.getD q z44) && !((b.f0.getD q z44).f0 == 12 && (!ahead b.f0 q || (!((b.f0.getD q z44).f6 == (predsP bs).getD j []) || (b.f0.getD q z44).f2.length != (b.f0.getD q z44).f6.length)))) := rfl
                  have hstp := range_all (okR re fs glob sl (predsP bs) j b.f0) q
                  have hno := range_no (p := okR re fs glob sl (predsP bs) j b.f0) hqt
                  have hah := ahead_succ b.f0 q hqt
                  have hgx := hgb.out _ (getD_mem b.f0 z44 q hqt)
                  rw [T44_nat] at u0 u1 u2 u3 u4 u5 u6 m2 M2 m6 M6
                  generalize b.f0.getD q z44 = x at *
                  obtain ⟨gx0, gx1⟩ := hgx
                  have bA := below_alloc (Below.refl wr.heap.size wr) (ib x B2 B6 e2 e6)
                  have bw2 := below_step bw bA
                  have bq2 := below_step hQ.out bA
                  have hin := Aside0.mk (rinstr (w := wr.alloc (ib x B2 B6 e2 e6)) (A0 := A0) (A2 := A2) (A8 := some ad) (n0 := n0) (c0 := c0) (n2 := n2) (c2 := c2) (c8 := c8) (glob := glob) (main := main) (pa := pa) (re := re) (sl := sl) (nm := nm) (fs := fs) bs.length x B2 B6 e2 e6 gx0 gx1 hn ⟨Kd.C_below hf.out bw2⟩ ⟨Kd.C_below M2 bw2⟩)
                  have hI := Aside0.mk (blk_new wr (ib x B2 B6 e2 e6))
                  have hQ2 := Aside0.mk bq2
                  have hYq2 := Aside0.mk (blk_alloc hYq.out (ib x B2 B6 e2 e6))
                  have M2' := Aside0.mk (Kd.C_below M2 bw2)
                  have M6' := Aside0.mk (Kd.C_below M6 bw2)
                  have hP7 := Aside0.mk ((bq2.block _ (blk_lt hP6.out)).trans hP6.out)
                  have hF7 := Aside0.mk ((bq2.block _ (blk_lt hF6.out)).trans hF6.out)
                  have C7 := Aside0.mk (Kd.C_below hC6.out bq2)
                  have z0 : (wr.alloc (ib x B2 B6 e2 e6)).cell? ⟨w.heap.size, 0, none⟩ = some (.slice A0 n0 c0) := (blk_cell hP7.out 0).trans rfl
                  have z1 : (wr.alloc (ib x B2 B6 e2 e6)).cell? ⟨w.heap.size, 1, none⟩ = some (.int .i64 glob) := (blk_cell hP7.out 1).trans rfl
                  have z2 : (wr.alloc (ib x B2 B6 e2 e6)).cell? ⟨w.heap.size, 2, none⟩ = some (.slice A2 n2 c2) := (blk_cell hP7.out 2).trans rfl
                  have z3 : (wr.alloc (ib x B2 B6 e2 e6)).cell? ⟨w.heap.size, 3, none⟩ = some (.int .i64 main) := (blk_cell hP7.out 3).trans rfl
                  have y0 : (wr.alloc (ib x B2 B6 e2 e6)).cell? ⟨w.heap.size + 1, 0, none⟩ = some (.string nm) := (blk_cell hF7.out 0).trans rfl
                  have y1 : (wr.alloc (ib x B2 B6 e2 e6)).cell? ⟨w.heap.size + 1, 1, none⟩ = some (.int .i64 pa) := (blk_cell hF7.out 1).trans rfl
                  have y2 : (wr.alloc (ib x B2 B6 e2 e6)).cell? ⟨w.heap.size + 1, 2, none⟩ = some (.int .i64 re) := (blk_cell hF7.out 2).trans rfl
                  have y3 : (wr.alloc (ib x B2 B6 e2 e6)).cell? ⟨w.heap.size + 1, 3, none⟩ = some (.int .i64 sl) := (blk_cell hF7.out 3).trans rfl
                  have y4 : (wr.alloc (ib x B2 B6 e2 e6)).cell? ⟨w.heap.size + 1, 4, none⟩ = some (.slice (some ad) bs.length c8) := (blk_cell hF7.out 4).trans rfl
                  have hlI : wr.heap.size < (wr.alloc (ib x B2 B6 e2 e6)).heap.size := by simp
                  clear M2 M6 bw bA bw2 bq2 hQ
                  generalize hiv : rinB re fs glob sl x = iv at *
                  cases iv
                  · have hres : Aside0 (funcR fs glob pa re sl bs = false) := ⟨by
                      rw [hfin3.out]
                      exact hcno.out (by rw [show codeR re fs glob sl (predsP bs) j b.f0 b.f0.length = false from hno (by rw [hok]; rfl)]; rfl)⟩
                    clear hok hstp hno hah hcs hcno hiv
                    go_wp2_with fail
                    (with_reducible refine hin.out.mono ?_)
                    rintro e w7 ⟨rfl, b7⟩
                    have hQ7 := Aside0.mk (below_step hQ2.out b7)
                    clear b7
                    go_wp2
                    go_ret
                    rw [hres.out]
                    exact ⟨rfl, below_step hB6.out hQ7.out⟩
                  · go_wp2_with fail
                    (with_reducible refine hin.out.mono ?_)
                    rintro e w7 ⟨rfl, b7⟩
                    have hQ7 := Aside0.mk (below_step hQ2.out b7)
                    have hI7 := (b7.block _ (blk_lt hI.out)).trans hI.out
                    have hY7 := Aside0.mk ((b7.block _ (blk_lt hYq2.out)).trans hYq2.out)
                    have M6'' := Aside0.mk (Kd.C_below M6'.out b7)
                    have C7' := Aside0.mk (Kd.C_below C7.out b7)
                    have t0 : w7.cell? ⟨wr.heap.size, 0, none⟩ = some (.int .i64 x.f0) := (blk_cell hI7 0).trans rfl
                    have t2 : w7.cell? ⟨wr.heap.size, 2, none⟩ = some (.slice B2 x.f2.length e2) := (blk_cell hI7 2).trans rfl
                    have t6 : w7.cell? ⟨wr.heap.size, 6, none⟩ = some (.slice B6 x.f6.length e6) := (blk_cell hI7 6).trans rfl
                    clear b7 hI7 hI hYq2 hQ2 hYq M2' M6' C7 hP7 hF7 z0 z1 z2 z3 y0 y1 y2 y3 y4 hin v0 u0 u1 u2 u3 u4 u5 u6 m2
                    obtain ⟨ad9, B9, d9, e9, z0, l9, C9⟩ := atL C7'.out j (by rw [hPl.out]; exact hlt)
                    cases e9
                    have hap := add_plain gO j
                    rw [hap] at z0
                    have C9 := Aside0.mk C9
                    generalize (predsP bs).getD j [] = pr at *
                    go_upto_region 24 with (fail)
                    go_cut [140] (fun s140 wx => s140 = .bool (x.f0 == 12 && (!ahead b.f0 q || (!(x.f6 == pr) || x.f2.length != x.f6.length))) ∧ Aside0 (∃ n, wx = w7.drewN n))
                    case first =>
                      clear hok hstp hno hah hcs hcno
                      generalize ahead b.f0 q = av at *
                      cases h12 : (x.f0 == 12)
                      · go_quiet (fail)
                        go_wp2_with fail
                        go_meet
                        exact ⟨by rw [h12]; rfl, ⟨_, rfl⟩⟩
                      · cases av
                        · go_quiet (fail)
                          go_wp2_with fail
                          go_meet
                          exact ⟨by rw [h12]; rfl, ⟨_, rfl⟩⟩
                        · have hsame := Aside0.mk (fun n => rsame (w := w7.drewN n) (c := e6) (d := d9) ⟨Kd.C_below M6''.out (bdn (Below.refl _ _) n)⟩ ⟨Kd.C_below C9.out (bdn (Below.refl _ _) n)⟩)
                          generalize hsv : (x.f6 == pr) = sv at *
                          cases sv
                          all_goals
                            cases hlv : (x.f2.length != x.f6.length)
                          all_goals
                            have hlv2 : ((x.f2.length : Int) != (x.f6.length : Int)) = (x.f2.length != x.f6.length) := by rw [Bool.eq_iff_iff]; simp; omega
                            rw [hlv] at hlv2
                            go_quiet ((go_at_call 18; exact Calls.quiet_of (hsame.out _)))
                            go_wp2_with fail
                            go_meet
                            exact ⟨by rw [h12, hlv]; rfl, ⟨_, rfl⟩⟩
                    case rest =>
                      obtain ⟨rfl, hdr⟩ := hcut
                      obtain ⟨nd, rfl⟩ := hdr.out
                      clear hdr
                      have hQ8 := Aside0.mk (bdn hQ7.out nd)
                      have hY8 : Aside0 ((w7.drewN nd).heap[Y]? = some (bb b (some a4) B3 d0 d3)) := ⟨hY7.out⟩
                      have t0' : (w7.drewN nd).cell? ⟨wr.heap.size, 0, none⟩ = some (.int .i64 x.f0) := t0
                      clear hQ7 hY7 t0 t2 t6 z0 l9 C9 M6'' C7'
                      generalize w7.drewN nd = w8 at *
                      have hok2 : Aside0 (okR re fs glob sl (predsP bs) j b.f0 q = !(x.f0 == 12 && (!ahead b.f0 q || (!(x.f6 == pr) || x.f2.length != x.f6.length)))) := ⟨by rw [hok]; rfl⟩
                      have hahc : Aside0 ((x.f0 == 12 && (!ahead b.f0 q || (!(x.f6 == pr) || x.f2.length != x.f6.length))) = false → x.f0 = 12 → ahead b.f0 q = true) := ⟨fun h e => by rw [e] at h; cases hq : ahead b.f0 q <;> simp [hq] at h ⊢⟩
                      generalize (x.f0 == 12 && (!ahead b.f0 q || (!(x.f6 == pr) || x.f2.length != x.f6.length))) = C at *
                      cases C
                      · have hC2 : Aside0 (codeR re fs glob sl (predsP bs) j b.f0 (q + 1) = true) := ⟨by
                          have h := hC.out
                          unfold codeR at h ⊢
                          rw [hstp, h, hok2.out]
                          rfl⟩
                        have hah2 := Aside0.mk hah
                        clear hok hstp hno hah hcs hcno hok2 hahc
                        generalize ahead b.f0 q = av at *
                        cases av
                        all_goals
                          go_wp2
                          exact ⟨⟨q + 1, by omega, by go_num, by rw [hah2.out]; rfl, hQ8, hY8, hC2⟩, by simp [intOf]; omega⟩
                      · have hres : Aside0 (funcR fs glob pa re sl bs = false) := ⟨by
                          rw [hfin3.out]
                          exact hcno.out (by rw [show codeR re fs glob sl (predsP bs) j b.f0 b.f0.length = false from hno (by rw [hok2.out]; rfl)]; rfl)⟩
                        clear hok hstp hno hah hcs hcno hok2 hahc
                        go_wp2
                        go_ret
                        rw [hres.out]
                        exact ⟨rfl, below_step hB6.out hQ8.out⟩
                · obtain rfl : q = b.f0.length := by omega
                  have v1 : wr.cell? ⟨Y, 1, none⟩ = some (.int .i64 b.f1) := (blk_cell hYq.out 1).trans rfl
                  have v2 : wr.cell? ⟨Y, 2, none⟩ = some (.int .i64 b.f2) := (blk_cell hYq.out 2).trans rfl
                  have v3 : wr.cell? ⟨Y, 3, none⟩ = some (.slice B3 b.f3.length d3) := (blk_cell hYq.out 3).trans rfl
                  have hF7 := (hQ.out.block _ (blk_lt hF6.out)).trans hF6.out
                  have y0 : wr.cell? ⟨w.heap.size + 1, 0, none⟩ = some (.string nm) := (blk_cell hF7 0).trans rfl
                  have y1 : wr.cell? ⟨w.heap.size + 1, 1, none⟩ = some (.int .i64 pa) := (blk_cell hF7 1).trans rfl
                  have y2 : wr.cell? ⟨w.heap.size + 1, 2, none⟩ = some (.int .i64 re) := (blk_cell hF7 2).trans rfl
                  have y3 : wr.cell? ⟨w.heap.size + 1, 3, none⟩ = some (.int .i64 sl) := (blk_cell hF7 3).trans rfl
                  have y4 : wr.cell? ⟨w.heap.size + 1, 4, none⟩ = some (.slice (some ad) bs.length c8) := (blk_cell hF7 4).trans rfl
                  have hen := Aside0.mk (rends (w := wr) nm pa re sl (some ad) bs.length c8 b B0 B3 d0 d3 (by omega) ⟨Kd.C_below g3'.out (below_step hB6.out hQ.out)⟩)
                  clear hF7
                  generalize hev : endB re bs.length b = ev at *
                  cases ev
                  · have hres : Aside0 (funcR fs glob pa re sl bs = false) := ⟨by rw [hfin3.out]; exact hcno.out (by rw [hC.out]; rfl)⟩
                    clear hcs hcno hev
                    go_wp2_with fail
                    (with_reducible refine hen.out.mono ?_)
                    rintro e w7 ⟨rfl, b7⟩
                    have hQ7 := Aside0.mk (below_step hQ.out b7)
                    clear b7
                    go_wp2
                    go_ret
                    rw [hres.out]
                    exact ⟨rfl, below_step hB6.out hQ7.out⟩
                  · have hK2 : Aside0 (blocksR re fs glob sl bs (j + 1) = true) := ⟨by have h := hK.out; unfold blocksR at h ⊢; rw [hcs.out, h, hC.out]; rfl⟩
                    clear hcs hcno hev
                    go_wp2_with fail
                    (with_reducible refine hen.out.mono ?_)
                    rintro e w7 ⟨rfl, b7⟩
                    have hQ7 := Aside0.mk (below_step hQ.out b7)
                    clear b7
                    go_wp2
                    exact ⟨⟨j + 1, by omega, by go_num, hQ7, hK2⟩, by simp [intOf]; omega⟩
            · obtain rfl : j = bs.length := by omega
              have hres : Aside0 (funcR fs glob pa re sl bs = true) := ⟨by rw [hfin3.out]; exact hK.out⟩
              go_wp2
              go_ret
              rw [hres.out]
              exact ⟨rfl, below_step hB6.out hW.out⟩
        · have hp1 : decide ((0 : Int) < (p0 : Int)) = true := by simp; omega
          have hp2 : decide (0 < p0) = true := by simp; omega
          have hres : Aside0 (funcR fs glob pa re sl bs = false) := ⟨by rw [hfin2.out, show (p0 == 0) = false by simp [hp]]; rfl⟩
          clear hp hfin2
          go_wp2
          go_ret
          rw [hres.out]
          exact ⟨rfl, hB6.out⟩
      · have hres : Aside0 (funcR fs glob pa re sl bs = false) := ⟨by rw [hfin.out, show decide (S ≤ 65536) = false by simp [hs6]]; rfl⟩
        have hs7 : 65536 < S := by omega
        clear hfin hs6
        go_wp2
        go_ret
        rw [hres.out]
        exact ⟨rfl, hB1.out⟩
end Go.Proofs.Ytobikiffjanagaa.IrA
end
section
namespace Go.Proofs.Ytobikiffjanagaa.IrA
open Go.RowKit Go.Proofs.YtobikiffjanagaaW.PrintWords Go.Proofs.YtobikiffjanagaaW.PrintLast Go.Proofs.YtobikiffjanagaaW.PrintMore Go.Proofs.Ytobikiffjanagaa.GF
set_option linter.unusedVariables false
set_option linter.unusedSimpArgs false
abbrev Rst := List Bool × List Int
def stepT (st : Rst) (t : Int) : Rst := if 0 ≤ t ∧ t < st.1.length then (if st.1.getD t.toNat false = true then st else (st.1.set t.toNat true, st.2 ++ [t])) else st
def turn (bs : List S58) (st : Rst) : Rst := (bs.getD (st.2.getLastD 0).toNat z58).f3.foldl stepT (st.1, st.2.dropLast)
def cntF (l : List Bool) : Nat := l.countP (· == false)
def meas (st : Rst) : Nat := cntF st.1 + st.2.length
def fin (bs : List S58) : Nat → Rst → List Bool
  | 0, st => st.1
  | k + 1, st => if st.2 = [] then st.1 else fin bs k (turn bs st)
def reached (bs : List S58) : List Bool := if bs.length = 0 then [] else fin bs bs.length ((List.replicate bs.length false).set 0 true, [0])
/-- Marks for all blocks; what waits is blocks. -/
structure Gd (n : Nat) (st : Rst) : Prop where
  len : st.1.length = n
  row : ∀ x ∈ st.2, 0 ≤ x ∧ x < n
  m : meas st ≤ n
theorem cntF_set {l : List Bool} {t : Nat} (h : t < l.length) (hf : l.getD t false = false) : cntF (l.set t true) + 1 = cntF l := by
  unfold cntF
  rw [List.getD_eq_getElem?_getD, List.getElem?_eq_getElem h] at hf
  have hf : l[t] = false := hf
  have : 0 < l.countP (fun b => b == false) := List.countP_pos_iff.2 ⟨l[t], List.getElem_mem h, by rw [hf]; rfl⟩
  rw [List.countP_set h, hf, if_pos (by rfl), if_neg (by decide)]
  omega
theorem meas_step {st : Rst} (t : Int) : meas (stepT st t) = meas st := by
  unfold stepT
  by_cases h : 0 ≤ t ∧ t < st.1.length
  · rw [if_pos h]
    by_cases hg : st.1.getD t.toNat false = true
    · rw [if_pos hg]
    · rw [if_neg hg]
      have := cntF_set (l := st.1) (t := t.toNat) (by omega) (by simpa using hg)
      unfold meas
      simp
      omega
  · rw [if_neg h]
theorem Gd.step {n : Nat} {st : Rst} (h : Gd n st) (t : Int) : Gd n (stepT st t) := by
  refine ⟨?_, ?_, by rw [meas_step]; exact h.m⟩
  · unfold stepT; split
    · split
      · exact h.len
      · simpa using h.len
    · exact h.len
  · unfold stepT; split
    · rename_i hr
      split
      · exact h.row
      · intro x hx
        rcases List.mem_append.1 hx with hx | hx
        · exact h.row x hx
        · rw [List.mem_singleton.1 hx]; exact ⟨hr.1, by have := hr.2; rw [h.len] at this; exact this⟩
    · exact h.row
theorem Gd.steps {n : Nat} : ∀ (ts : List Int) {st : Rst}, Gd n st → Gd n (ts.foldl stepT st)
  | [], _, h => h
  | t :: ts, st, h => Gd.steps ts (h.step t)
theorem meas_steps : ∀ (ts : List Int) (st : Rst), meas (ts.foldl stepT st) = meas st
  | [], _ => rfl
  | t :: ts, st => by show meas (ts.foldl stepT (stepT st t)) = _; rw [meas_steps ts, meas_step]
theorem Gd.pop {n : Nat} {st : Rst} (h : Gd n st) : Gd n (st.1, st.2.dropLast) :=
  ⟨h.len, fun x hx => h.row x (List.dropLast_subset _ hx), by have := h.m; unfold meas at this ⊢; simp; omega⟩
theorem Gd.turn {n : Nat} {bs : List S58} {st : Rst} (h : Gd n st) : Gd n (turn bs st) := Gd.steps _ h.pop
theorem meas_turn (bs : List S58) {st : Rst} (h : st.2 ≠ []) : meas (turn bs st) + 1 = meas st := by
  unfold turn
  rw [meas_steps]
  unfold meas
  have := List.length_pos_iff.2 h
  simp
  omega
theorem fin_more (bs : List S58) : ∀ (k : Nat) (st : Rst), meas st ≤ k → fin bs k st = fin bs (meas st) st
  | 0, st, h => by rw [show meas st = 0 by omega]
  | k + 1, st, h => by
    by_cases he : st.2 = []
    · cases hm : meas st with
      | zero => simp [fin, he]
      | succ m => simp [fin, he]
    · have h1 := meas_turn bs he
      obtain ⟨m, hm⟩ : ∃ m, meas st = m + 1 := ⟨meas st - 1, by omega⟩
      rw [hm]
      simp only [fin, if_neg he]
      rw [fin_more bs k _ (by omega), show meas (Go.Proofs.Ytobikiffjanagaa.IrA.turn bs st) = m by omega]
theorem fin_turn (bs : List S58) {st : Rst} (h : st.2 ≠ []) : fin bs (meas st) st = fin bs (meas (turn bs st)) (turn bs st) := by
  have h1 := meas_turn bs h
  obtain ⟨m, hm⟩ : ∃ m, meas st = m + 1 := ⟨meas st - 1, by omega⟩
  rw [hm]
  simp only [fin, if_neg h]
  rw [show meas (turn bs st) = m by omega]
theorem fin_nil (bs : List S58) {st : Rst} (h : st.2 = []) : fin bs (meas st) st = st.1 := by
  cases hm : meas st with
  | zero => rfl
  | succ m => simp [fin, h]
theorem gd_start {n : Nat} (h : 0 < n) : Gd n ((List.replicate n false).set 0 true, [0]) := by
  refine ⟨by simp, fun x hx => by have : x = 0 := by simpa using hx
                                  subst this; omega, ?_⟩
  have := cntF_set (l := List.replicate n false) (t := 0) (by simpa using h) (by simp [List.getD_eq_getElem?_getD, List.getElem?_replicate, h])
  have h2 : cntF (List.replicate n false) = n := by unfold cntF; rw [List.countP_replicate]; simp
  unfold meas
  simp
  omega
theorem foldl_snoc (st : Rst) (ts : List Int) (j : Nat) (h : j < ts.length) : (ts.take (j + 1)).foldl stepT st = stepT ((ts.take j).foldl stepT st) (rd ts (j : Int)) := by
  rw [List.take_succ_eq_append_getElem h, List.foldl_append, rd_at ts j h]
  rfl
structure Rq (w W : World) (gl n cl : Nat) (v4 : Value) (fbx : Obj) (st : Rst) : Prop where
  hL : Kd.R Kd.bool 4 W w.heap.size (fun _ => True) (.slice (some ⟨gl, 0, none⟩) n cl) st.1
  hR : Kd.R (Kd.int .i64) 3 W w.heap.size (fun _ => True) v4 st.2
  hX : W.heap[w.heap.size]? = some fbx
  hB : Below w.heap.size w W
theorem Rq.next {w W W' : World} {gl n cl : Nat} {v4 : Value} {fbx : Obj} {st : Rst} (h : Rq w W gl n cl v4 fbx st) (b : Below W.heap.size W W') : Rq w W' gl n cl v4 fbx st :=
  ⟨Kd.R_below h.hL b, Kd.R_below h.hR b, (b.block _ (blk_lt h.hX)).trans h.hX, below_step h.hB b⟩
theorem Rq.form {w W : World} {gl n cl : Nat} {v4 : Value} {fbx : Obj} {st : Rst} (h : Rq w W gl n cl v4 fbx st) (hn : st.1.length = n) (h0 : 0 < n) : w.heap.size ≤ gl ∧ gl < W.heap.size ∧ ∃ cells, W.heap[gl]? = some (.cells cells 4 (0, 0)) := by
  obtain ⟨g, cap, e, h1, h2, h3⟩ := Kd.R_form h.hL (by omega)
  injection e with e _ _
  injection e with e
  injection e with e _ _
  subst e
  exact ⟨h1, h2, h3⟩
theorem Rq.at_ {w W : World} {gl n cl : Nat} {v4 : Value} {fbx : Obj} {st : Rst} (h : Rq w W gl n cl v4 fbx st) (t : Nat) (ht : t < n) (hn : st.1.length = n) : W.cell? ⟨gl, t, none⟩ = some (.bool (st.1.getD t false)) ∧ W.frozen? ⟨gl, t, none⟩ = false := by
  obtain ⟨_, _, cells, hc⟩ := h.form hn (by omega)
  obtain ⟨ad, e, hx⟩ := Kd.at_bool (Kd.R_reads' h.hL).2.2 (t : Int) (by omega) (by omega)
  cases e
  rw [add_plain] at hx
  rw [Int.toNat_natCast] at hx
  refine ⟨?_, blk_frozen hc t⟩
  rw [hx]
  simp [rdOf]
theorem Rq.put {w W : World} {gl n cl : Nat} {v4 : Value} {cs : Array Value} {st : Rst} (h : Rq w W gl n cl v4 (.cells cs 33 (0, 0)) st) (t : Nat) (ht : t < n) (hn : st.1.length = n) : Rq w (W.setCell ⟨gl, t, none⟩ (.bool true)) gl n cl v4 (.cells cs 33 (0, 0)) (st.1.set t true, st.2) := by
  obtain ⟨h1, h2, cells, hc⟩ := h.form hn (by omega)
  have hne : w.heap.size ≠ gl := fun e => by
    have := h.hX
    rw [e, hc] at this
    injection this with this
    injection this with _ this
    cases this
  have hp := (Kd.R_putg h.hL (t : Int) true).1
  rw [Int.toNat_natCast] at hp
  exact ⟨hp, Kd.R_set h.hR hc (by decide) t _, (Below.heap_setCell _ _ _ _ hne).trans h.hX, h.hB.setCell h1 _⟩
theorem Rq.push {w W w1 : World} {gl n cl : Nat} {v4 v1 : Value} {cs : Array Value} {st : Rst} {row : List Int} (h : Rq w W gl n cl v4 (.cells cs 33 (0, 0)) st) (hg : W.grownBy w1 v4.ownBlock) (ho : Kd.R (Kd.int .i64) 3 w1 w.heap.size (fun _ => True) v1 row) (hb : Below w.heap.size w w1) : Rq w w1 gl n cl v1 (.cells cs 33 (0, 0)) (st.1, row) :=
  ⟨Kd.R_over' h.hL (Kd.R_typed h.hR) (by decide) hg, ho, blk_grown h.hX hg (Kd.R_ne h.hR h.hX (by decide)), hb⟩
theorem Rq.pop {w W : World} {gl n cl m c : Nat} {A : Option Addr} {fbx : Obj} {st : Rst} (h : Rq w W gl n cl (.slice A m c) fbx st) : Rq w W gl n cl (.slice A (st.2.length - 1) c) fbx (st.1, st.2.dropLast) := by
  refine ⟨h.hL, ?_, h.hX, h.hB⟩
  rw [List.dropLast_eq_take]
  exact Kd.R_take h.hR (by omega)
def lenOf : Value → Nat
  | .slice _ n _ => n
  | _ => 0
/-- Marks are told. -/
def RetM (l : List Bool) (w : World) (e : Ending) (w' : World) : Prop := ∃ v, e = .returned v ∧ Kd.R Kd.bool 4 w' w.heap.size (fun _ => True) v l ∧ Below w.heap.size w w'
theorem info4' : (Try.prog.info? 4).map (fun i => (i.zero, i.size, i.bytes)) = some (some (.bool false), 1, 1) := by kernel_rfl
set_option maxHeartbeats 16000000 in
set_option maxRecDepth 100000 in
theorem reached_walk {w : World} (nm : ByteArray) (pa re sl : Int) (A : Option Addr) (c : Nat) (bs : List S58) (hl : Aside0 (Kd.C k58 w A bs.length bs)) (hn : bs.length ≤ 2199023255552) :
    Calls Try.prog 16 #[fv nm pa re sl A bs.length c] w (RetM (reached bs) w) := by
  have hX : Aside0 ((w.alloc (fb nm pa re sl A bs.length c)).heap[w.heap.size]? = some (fb nm pa re sl A bs.length c)) := ⟨blk_new w _⟩
  have hB : Aside0 (Below w.heap.size w (w.alloc (fb nm pa re sl A bs.length c))) := ⟨below_alloc (Below.refl _ _) _⟩
  by_cases hz : bs.length = 0
  · obtain rfl : bs = [] := List.eq_nil_of_length_eq_zero hz
    clear hz
    have q0 : ((0 : Int) == 0) = true := rfl
    go_enter Try.func16, Try.ntmps16
    go_wp2_with ((with_reducible refine gate_dst (N := 11) rfl ?_); refine Kd.R_make Kd.bool (w0 := w.alloc (fb nm pa re sl A 0 c)) _ 4 rfl (N := 11) rfl 38 _ _ rfl (0 : Int) rfl rfl Try.underlying38 (.bool false) 1 info4' rfl (by decide) (by omega) false (ok := fun _ => True) (okp := fun _ => True) rfl (fun _ hk => hk) trivial (by omega) (by omega) (Below.refl _ _) (Nat.le_refl _) ?_; intro v1 w1 hS hb hg hat; have hS1 : Aside0 (Kd.R Kd.bool 4 w1 w.heap.size (fun _ => True) v1 []) := ⟨Kd.R_lower hS hB.out.size⟩; have hB1 := Aside0.mk (below_step hB.out hb); obtain ⟨AO, cO, eO⟩ := Kd.R_slice hS1.out; subst eO; clear hS hb hg hat)
    go_ret
    exact ⟨_, rfl, hS1.out, hB1.out⟩
  · have hp : 0 < bs.length := by omega
    have q0 : ((bs.length : Int) == 0) = false := beq_eq_false_iff_ne.mpr (by omega)
    clear hz
    have hGd := Aside0.mk (gd_start hp)
    have hres : Aside0 (reached bs = fin bs (meas ((List.replicate bs.length false).set 0 true, [0])) ((List.replicate bs.length false).set 0 true, [0])) := ⟨by
      unfold reached
      rw [if_neg (by omega)]
      exact fin_more bs _ _ hGd.out.m⟩
    generalize hl0 : (List.replicate bs.length false).set 0 true = l0 at *
    replace hl0 := Aside0.mk hl0
    go_enter Try.func16, Try.ntmps16
    go_upto_region 4 with ((with_reducible refine gate_dst (N := 11) rfl ?_); refine Kd.R_make Kd.bool (w0 := w.alloc (fb nm pa re sl A bs.length c)) _ 4 rfl (N := 11) rfl 38 _ _ rfl (bs.length : Int) rfl rfl Try.underlying38 (.bool false) 1 info4' rfl (by decide) (by omega) false (ok := fun _ => True) (okp := fun _ => True) rfl (fun _ hk => hk) trivial (by omega) (by omega) (Below.refl _ _) (Nat.le_refl _) ?_; intro v1 w1 hS hb hg hat; have hS1 : Aside0 (Kd.R Kd.bool 4 w1 w.heap.size (fun _ => True) v1 (List.replicate bs.length false)) := ⟨Kd.R_lower (by rw [Int.toNat_natCast] at hS; exact hS) hB.out.size⟩; have hB1 := Aside0.mk (below_step hB.out hb); have hX1 := Aside0.mk (blk_grown hX.out hg (by simp)); obtain ⟨gl, cl, e1, _, _, _⟩ := Kd.R_form hS1.out (by simpa using hp); rw [List.length_replicate] at e1; subst e1; clear hS hb hg hat)
    have hq0 : Rq w w1 gl bs.length cl (.slice none 0 0) (fb nm pa re sl A bs.length c) (List.replicate bs.length false, []) := ⟨hS1.out, Kd.R_nil _ _ _ _ _, hX1.out, hB1.out⟩
    obtain ⟨k0, f0⟩ := hq0.at_ 0 hp (by simp)
    have hq1 := Aside0.mk (hq0.put 0 hp (by simp))
    have hap := add_plain gl 0
    clear hq0 hS1 hX1 hB1 hX hB
    go_upto_region 5 with (fail)
    clear k0 f0
    generalize w1.setCell ⟨gl, 0, none⟩ (.bool true) = W2 at *
    go_wp2_with ((with_reducible refine gate_dst (N := 18) rfl ?_); refine Kd.R_lit (Kd.int .i64) _ 3 rfl (N := 18) rfl (xs := ([0] : List Int)) (inner := [.int .i64 0]) (ok := fun _ => True) (okp := fun _ => True) ?hr ?hp (fun _ hk => hk) trivial (Below.refl _ _) (Nat.le_refl _) (by simp) ?_; (case hr => first | (go_simp; done) | (go_simp; rfl)); (case hp => exact (Reps.one (show Kd.M (Kd.int .i64) _ _ _ 0 [.int .i64 0] from rfl) (Reps.none _ _))); intro v4 W3 ho hb hg hat; have hq3 : Aside0 (Rq w W3 gl bs.length cl v4 (fb nm pa re sl A bs.length c) (l0, [0])) := ⟨by have h := hq1.out.next hb; have h2 := Kd.R_lower ho hq1.out.hB.size; rw [← hl0.out]; exact ⟨h.hL, h2, h.hX, h.hB⟩⟩; clear ho hb hg hat)
    clear hq1 hl0
    go_loopg [4] (meas (l0, [0])) (fun kq v wr => ∃ st : Rst, kq = meas st ∧ Aside0 (Rq w wr gl bs.length cl v (fb nm pa re sl A bs.length c) st) ∧ Aside0 (Gd bs.length st) ∧ Aside0 (fin bs (meas st) st = reached bs))
    case atStart => exact ⟨(l0, [0]), rfl, hq3, hGd, ⟨hres.out.symm⟩⟩
    case round =>
      obtain ⟨st, rfl, hq, hgd, hF⟩ := hrel
      clear hq3 hGd hres
      obtain ⟨A4, c4, rfl⟩ := Kd.R_slice hq.out.hR
      have hmr : st.2.length ≤ bs.length := by have := hgd.out.m; unfold meas at this; omega
      by_cases he : st.2.length = 0
      · have he2 : st.2 = [] := List.eq_nil_of_length_eq_zero he
        have hr2 : Aside0 (st.1 = reached bs) := ⟨by rw [← hF.out, fin_nil bs he2]⟩
        have q1 : decide ((0 : Int) < (st.2.length : Int)) = false := decide_eq_false (by omega)
        have q2 : decide (0 < st.2.length) = false := decide_eq_false (by omega)
        clear he he2
        go_wp2
        go_ret
        exact ⟨_, rfl, by rw [← hr2.out]; exact hq.out.hL, hq.out.hB⟩
      · have he2 : st.2 ≠ [] := fun e => he (by rw [e]; rfl)
        have hmt := meas_turn bs he2
        have hft := Aside0.mk (fin_turn bs he2)
        have hgt := Aside0.mk (hgd.out.turn (bs := bs))
        have hpos : 0 < st.2.length := by omega
        have hx := hgd.out.row (st.2.getLastD 0) (by rw [List.getLastD_eq_getLast?, List.getLast?_eq_some_getLast he2]; exact List.getLast_mem he2)
        obtain ⟨x, hxe⟩ := Int.eq_ofNat_of_zero_le hx.1
        have hxn : x < bs.length := by omega
        have htu : Aside0 (turn bs st = (bs.getD x z58).f3.foldl stepT (st.1, st.2.dropLast)) := ⟨by unfold turn; rw [hxe]; rfl⟩
        obtain ⟨a4, e, r0⟩ := Kd.at_int (Kd.R_reads' hq.out.hR).2.2 ((st.2.length - 1 : Nat) : Int) (by omega) (by omega)
        cases e
        simp only [Int.toNat_natCast] at r0
        have hrd : rd st.2 ((st.2.length - 1 : Nat) : Int) = (x : Int) := by
          rw [← hxe, rd_at _ _ (by omega), List.getLastD_eq_getLast?, List.getLast?_eq_some_getLast he2, Option.getD_some, List.getLast_eq_getElem]
        rw [hrd] at r0
        obtain ⟨ad, B0, d0, B3, d3, e, x0, x1, x2, x3, l0', g0', l3, g3'⟩ := at_T58 hl.out (x : Int) (by omega) (by omega)
        cases e
        simp only [Int.toNat_natCast] at x0 x1 x2 x3
        replace x0 := (hq.out.hB.cell (World.block_lt_of_cell? w _ x0)).trans x0
        replace x1 := (hq.out.hB.cell (World.block_lt_of_cell? w _ x1)).trans x1
        replace x2 := (hq.out.hB.cell (World.block_lt_of_cell? w _ x2)).trans x2
        replace x3 := (hq.out.hB.cell (World.block_lt_of_cell? w _ x3)).trans x3
        have eb : rd_T58 bs (x : Int) = bs.getD x z58 := by simp [rd_T58]
        rw [eb] at x0 x1 x2 x3 g3'
        generalize bs.getD x z58 = b at *
        replace g3' := Aside0.mk g3'
        have hmx3 := Kd.C_max g3'.out
        have y4 : wr.cell? ⟨w.heap.size, 4, none⟩ = some (.slice (some ad) bs.length c) := (blk_cell hq.out.hX 4).trans rfl
        have hwl : IntKind.i64.wrap ((st.2.length : Int) - 1) = ((st.2.length - 1 : Nat) : Int) := by rw [IntWalk.i64_in _ (by omega)]; omega
        have q1 : decide ((0 : Int) < (st.2.length : Int)) = true := decide_eq_true (by omega)
        have q2 : decide (0 < st.2.length) = true := decide_eq_true (by omega)
        have q3 : ((st.2.length - 1 : Nat) : Int) < (st.2.length : Int) := by omega
        have q4 : st.2.length - 1 < st.2.length := by omega
        have q5 : (x : Int) < (bs.length : Int) := by omega
        clear hrd hxe hx l0' g0' l3 eb he he2
        replace hmt := Aside0.mk hmt
        have hsl : ∀ W : World, (Instr.slice 41 (.slice (some a4) st.2.length c4) none (some (.int .i64 ((st.2.length - 1 : Nat) : Int))) none).run Try.prog W = .ok (.slice (some a4) (st.2.length - 1) c4) W := by
          obtain ⟨i0, hi, _⟩ := Option.map_eq_some_iff.1 info3'
          have := cut_to 41 3 .i64 Try.underlying41 hi (some a4) st.2.length c4 ((st.2.length - 1 : Nat) : Int) (by omega) (by omega) (Kd.R_reads' hq.out.hR).2.1
          rwa [Int.toNat_natCast] at this
        have hq5 := Aside0.mk ((hq.out.next (show Below wr.heap.size wr wr.drew from ⟨rfl, rfl, rfl, Nat.le_refl _, fun _ _ => rfl⟩)).next (below_alloc (Below.refl wr.drew.heap.size wr.drew) (bb b B0 B3 d0 d3)))
        have hq6 := Aside0.mk hq5.out.pop
        have hg6 := Aside0.mk hgd.out.pop
        have ft0 : Aside0 ((st.1, st.2.dropLast) = (b.f3.take 0).foldl stepT (st.1, st.2.dropLast)) := ⟨rfl⟩
        have n0 := World.new_ne wr _ y4
        have n1 := World.new_ne wr _ r0
        have n2 := World.new_ne wr _ x0
        have n3 := World.new_ne wr _ x1
        have n4 := World.new_ne wr _ x2
        have n5 := World.new_ne wr _ x3
        go_upto_region 7 with (fail)
        go_cut [5] (fun s5 wx => ∃ Y, s5 = .pointer (some ⟨Y, 0, none⟩) ∧ Aside0 (wx.heap[Y]? = some (bb b B0 B3 d0 d3)) ∧ Aside0 (Below wr.heap.size wr wx))
        case first =>
          go_region_held3 (fun w' => w'.cell? ⟨w.heap.size, 4, none⟩ = some (.slice (some ad) bs.length c) ∧ w'.cell? (a4.add (st.2.length - 1)) = some (.int .i64 (x : Int)) ∧ w'.cell? (ad.add (x * 4)) = some (.slice B0 b.f0.length d0) ∧ w'.cell? ⟨(ad.add (x * 4)).block, (ad.add (x * 4)).off + 1, none⟩ = some (.int .i64 b.f1) ∧ w'.cell? ⟨(ad.add (x * 4)).block, (ad.add (x * 4)).off + 2, none⟩ = some (.int .i64 b.f2) ∧ w'.cell? ⟨(ad.add (x * 4)).block, (ad.add (x * 4)).off + 3, none⟩ = some (.slice B3 b.f3.length d3)) (go_keep) (fail)
          all_goals
            go_wp2_with fail
            go_meet
            exact ⟨wr.heap.size, rfl, ⟨blk_new wr.drew (bb b B0 B3 d0 d3)⟩, ⟨below_step (show Below wr.heap.size wr wr.drew from ⟨rfl, rfl, rfl, Nat.le_refl _, fun _ _ => rfl⟩) (below_alloc (Below.refl _ _) _)⟩⟩
        case rest =>
          obtain ⟨Y, rfl, hY, hb5⟩ := hcut
          have hq5 := Aside0.mk (hq.out.next hb5.out)
          have hq6 := Aside0.mk hq5.out.pop
          have hg6 := Aside0.mk hgd.out.pop
          have v3 := (blk_cell hY.out 3).trans (show _ = some (.slice B3 b.f3.length d3) from rfl)
          clear y4 r0 q3 q4 q5 hq5 hq n0 n1 n2 n3 n4 n5 x0 x1 x2 x3 hb5 hY
          go_wp2
          clear v3
          go_loopw [4, 40] (fun v i wq => ∃ q : Nat, q ≤ b.f3.length ∧ i = .int .i64 q ∧ Aside0 (Rq w wq gl bs.length cl v (fb nm pa re sl (some ad) bs.length c) ((b.f3.take q).foldl stepT (st.1, st.2.dropLast))) ∧ Aside0 (Gd bs.length ((b.f3.take q).foldl stepT (st.1, st.2.dropLast)))) (fun _ i _ => b.f3.length - (intOf i).toNat)
          case atStart => exact ⟨0, by omega, rfl, hq6, hg6⟩
          case round =>
            obtain ⟨q, hqq, rfl, hq7, hg7⟩ := hrel
            clear hq6 hg6
            by_cases hqt : q < b.f3.length
            · obtain ⟨a3, e, z0⟩ := Kd.at_int g3'.out q (by omega) (by omega)
              cases e
              simp only [Int.toNat_natCast] at z0
              replace z0 := (hq7.out.hB.cell (World.block_lt_of_cell? w _ z0)).trans z0
              have hst := Aside0.mk (foldl_snoc (st.1, st.2.dropLast) b.f3 q hqt)
              have hg8 := hg7.out.step (rd b.f3 (q : Int))
              generalize (b.f3.take q).foldl stepT (st.1, st.2.dropLast) = s7 at *
              generalize rd b.f3 (q : Int) = y at *
              have hlen7 := hg7.out.len
              have hm7 : s7.2.length ≤ bs.length := by have := hg7.out.m; unfold meas at this; omega
              have hwq := Aside0.mk (fun w => within y 0 ((bs.length : Int) - 1) w)
              have hwn : IntKind.i64.wrap ((bs.length : Int) - 1) = (bs.length : Int) - 1 := IntWalk.i64_in _ (by omega)
              replace hlen7 := Aside0.mk hlen7
              cases hin2 : wi y 0 ((bs.length : Int) - 1)
              · rw [hin2] at hwq
                have hs8 : stepT s7 y = s7 := by unfold stepT; rw [if_neg]; rw [hlen7.out]; unfold wi at hin2; simp at hin2; omega
                rw [hs8] at hst hg8
                clear hs8 hin2 hg8
                go_wp2_with ((with_reducible refine (hwq.out _).mono ?_); rintro e w' ⟨rfl, rfl⟩)
                exact ⟨⟨q + 1, by omega, by go_num, by rw [hst.out]; exact hq7, by rw [hst.out]; exact hg7⟩, by simp [intOf]; omega⟩
              · rw [hin2] at hwq
                have hyr : 0 ≤ y ∧ y < bs.length := by unfold wi at hin2; simp at hin2; omega
                clear hin2
                obtain ⟨y00, hyt⟩ := hyr
                obtain ⟨t, rfl⟩ := Int.eq_ofNat_of_zero_le y00
                have ht : t < bs.length := by omega
                obtain ⟨k0, f0⟩ := hq7.out.at_ t ht hlen7.out
                have hap := add_plain gl t
                have hs8 : stepT s7 (t : Int) = if s7.1.getD t false = true then s7 else (s7.1.set t true, s7.2 ++ [(t : Int)]) := by
                  unfold stepT
                  rw [if_pos ⟨by omega, by rw [hlen7.out]; omega⟩, Int.toNat_natCast]
                have hput := Aside0.mk (hq7.out.put t ht hlen7.out)
                cases hv : s7.1.getD t false
                · rw [hv] at k0 hs8
                  have hs9 : stepT s7 (t : Int) = (s7.1.set t true, s7.2 ++ [(t : Int)]) := by rw [hs8]; rfl
                  rw [hs9] at hst hg8
                  replace hg8 := Aside0.mk hg8
                  clear hs8 hs9 hv
                  go_upto_region 14 with ((with_reducible refine (hwq.out _).mono ?_); rintro e w' ⟨rfl, rfl⟩)
                  clear k0 f0 z0
                  generalize wr.setCell ⟨gl, t, none⟩ (.bool true) = W9 at *
                  obtain ⟨A5, c5, rfl⟩ := Kd.R_slice hput.out.hR
                  go_wp2_with (at_builtin; go_loud ((refine Kd.R_append (Kd.int .i64) (w0 := w) w.heap.size rfl (.tmp 59) (.tmp 61) 41 3 (.int .i64 0) 8 rfl Try.underlying41 info3' rfl (by decide) (by omega) (.slice A5 s7.2.length c5) s7.2 (t : Int) [.int .i64 (t : Int)] (fun _ => True) (fun _ => False) rfl rfl ?aP (fun _ hk => hk.elim) ?aF ?aO ?aB ?aS ?aL ?_; (case aP => exact rfl); (case aB => exact hput.out.hB); (case aF => exact fun _ _ => trivial); (case aO => exact hput.out.hR); (case aS => exact below_size hput.out.hB); (case aL => omega); intro v1 w1 ho hb hg hat; have hq9 := Aside0.mk (hput.out.push hg ho hb); obtain ⟨A6, c6, rfl⟩ := Kd.R_slice ho; simp only [List.length_append, List.length_cons, List.length_nil, Nat.zero_add] at hq9; clear ho hb hg hat)))
                  exact ⟨⟨q + 1, by omega, by go_num, by rw [hst.out]; exact hq9, by rw [hst.out]; exact hg8⟩, by simp [intOf]; omega⟩
                · rw [hv] at k0 hs8
                  have hs9 : stepT s7 (t : Int) = s7 := by rw [hs8]; rfl
                  rw [hs9] at hst hg8
                  clear hs8 hs9 hv hput hg8
                  go_wp2_with ((with_reducible refine (hwq.out _).mono ?_); rintro e w' ⟨rfl, rfl⟩)
                  exact ⟨⟨q + 1, by omega, by go_num, by rw [hst.out]; exact hq7, by rw [hst.out]; exact hg7⟩, by simp [intOf]; omega⟩
            · obtain rfl : q = b.f3.length := by omega
              rw [List.take_length] at hq7 hg7
              rw [← htu.out] at hq7 hg7
              go_wp2
              go_roundg (meas (turn bs st))
              case measure => have := hmt.out; omega
              case rel => exact ⟨turn bs st, rfl, hq7, hg7, ⟨by rw [← hft.out]; exact hF.out⟩⟩
end Go.Proofs.Ytobikiffjanagaa.IrA
end
section
namespace Go.Proofs.Ytobikiffjanagaa.IrA
open Go.RowKit Go.Proofs.YtobikiffjanagaaW.PrintWords Go.Proofs.YtobikiffjanagaaW.PrintLast Go.Proofs.YtobikiffjanagaaW.PrintMore Go.Proofs.Ytobikiffjanagaa.GF
set_option linter.unusedVariables false
set_option linter.unusedSimpArgs false
variable {w : World} {A0 A2 A8 : Option Addr} {n0 c0 n2 c2 c8 : Nat} {glob main pa re sl : Int} {nm : ByteArray} {fs : List S33} {bs : List S58} {ds : List S51}
theorem checkFunc (hgd : Aside0 (∀ b ∈ bs, gd58 b)) (hn : fs.length = n0) (hf : Aside0 (Kd.C k33 w A0 n0 fs)) (hb : Aside0 (Kd.C k58 w A8 bs.length bs)) :
    Calls Try.prog 12 #[pv A0 n0 c0 glob A2 n2 c2 main, fv nm pa re sl A8 bs.length c8] w (RetB (.int .i64 (cer (checkB fs glob pa re sl bs))) w) := by
  cases h : sizesB pa re sl bs
  · have : checkB fs glob pa re sl bs = false := by unfold checkB; rw [h]; rfl
    rw [this]
    exact checkFunc_no h
  · exact checkFunc_yes h hgd hn hf hb
theorem func (hgd : Aside0 (∀ b ∈ bs, gd58 b)) (hn : fs.length = n0) (hf : Aside0 (Kd.C k33 w A0 n0 fs)) (hb : Aside0 (Kd.C k58 w A8 bs.length bs)) :
    Calls Try.prog 13 #[pv A0 n0 c0 glob A2 n2 c2 main, fv nm pa re sl A8 bs.length c8] w (RetB (.bool (checkB fs glob pa re sl bs)) w) := by
  cases h : sizesB pa re sl bs
  · have : checkB fs glob pa re sl bs = false := by unfold checkB; rw [h]; rfl
    rw [this]
    exact func_no h (Kd.C_max hb.out)
  · rw [← funcR_eq]
    exact func_yes h hgd hn hf hb
theorem nil_toList : (⟨#[]⟩ : ByteArray).toList = [] := by
  unfold ByteArray.toList ByteArray.toList.loop
  rfl
/-- Data: where the next one may begin; may they be. -/
def atOf (ds : List S51) : Nat → Int
  | 0 => 0
  | i + 1 => (ds.getD i z51).f0 + ((ds.getD i z51).f1.size : Int)
def datOk (glob a : Int) (d : S51) : Bool := decide (a ≤ d.f0) && (decide (0 < d.f1.size) && (decide (d.f0 ≤ glob) && decide ((d.f1.size : Int) ≤ glob - d.f0)))
def datTo (glob : Int) (ds : List S51) (j : Nat) : Bool := (List.range j).all fun i => datOk glob (atOf ds i) (ds.getD i z51)
theorem atOf_in {glob : Int} (h0 : 0 ≤ glob) (ds : List S51) : ∀ j, datTo glob ds j = true → 0 ≤ atOf ds j ∧ atOf ds j ≤ glob
  | 0, _ => ⟨Int.le_refl _, h0⟩
  | j + 1, h => by
    unfold datTo at h
    rw [range_all, Bool.and_eq_true] at h
    obtain ⟨h1, h2⟩ := h
    have ih := atOf_in h0 ds j h1
    simp only [atOf]
    generalize ds.getD j z51 = d at *
    unfold datOk at h2
    simp at h2
    omega
def funcsTo (fs : List S33) (glob : Int) (j : Nat) : Bool := (List.range j).all fun i => checkB fs glob (fs.getD i z33).f1 (fs.getD i z33).f2 (fs.getD i z33).f3 (fs.getD i z33).f4
def progB (fs : List S33) (glob main : Int) (ds : List S51) : Bool :=
  wi (fs.length : Int) 1 256 && (wi glob 0 65536 && (wi main 0 ((fs.length : Int) - 1) && (datTo glob ds ds.length && (funcsTo fs glob fs.length && (fs.getD main.toNat z33).f1 == 0))))
theorem T33_nat (l : List S33) (j : Nat) : rd_T33 l (j : Int) = l.getD j z33 := by simp [rd_T33]
theorem T51_nat (l : List S51) (j : Nat) : rd_T51 l (j : Int) = l.getD j z51 := by simp [rd_T51]
def gd33 (f : S33) : Prop := ∀ b ∈ f.f4, gd58 b
abbrev db (d : S51) : Obj := .cells #[.int .i64 d.f0, .string d.f1] 51 (0, 0)
set_option maxHeartbeats 16000000 in
set_option maxRecDepth 100000 in
theorem check_no (hmx : fs.length ≤ 9223372036854775807) (h : (wi (fs.length : Int) 1 256 && (wi glob 0 65536 && wi main 0 ((fs.length : Int) - 1))) = false) : Calls Try.prog 8 #[pv A0 fs.length c0 glob A2 n2 c2 main] w (RetB (.int .i64 1) w) := by
  have hB : Aside0 (Below w.heap.size w (w.alloc (pb A0 fs.length c0 glob A2 n2 c2 main))) := ⟨below_alloc (Below.refl _ _) _⟩
  have hwl : IntKind.i64.wrap ((fs.length : Int) - 1) = (fs.length : Int) - 1 := IntWalk.i64_in _ (by omega)
  have q1 := Aside0.mk (within (fs.length : Int) 1 256)
  have q2 := Aside0.mk (within glob 0 65536)
  have q3 := Aside0.mk (within main 0 ((fs.length : Int) - 1))
  cases h1 : wi (fs.length : Int) 1 256
  · rw [h1] at q1
    clear h h1
    go_enter Try.func8, Try.ntmps8
    go_wp2_with ((with_reducible refine (q1.out _).mono ?_); rintro e w' ⟨rfl, rfl⟩)
    go_ret
    exact ⟨rfl, hB.out⟩
  rw [h1] at q1 h
  clear h1
  cases h2 : wi glob 0 65536
  · rw [h2] at q2
    clear h h2
    go_enter Try.func8, Try.ntmps8
    go_wp2_with (first | ((with_reducible refine (q1.out _).mono ?_); rintro e w' ⟨rfl, rfl⟩) | ((with_reducible refine (q2.out _).mono ?_); rintro e w' ⟨rfl, rfl⟩))
    go_ret
    exact ⟨rfl, hB.out⟩
  rw [h2] at q2 h
  clear h2
  have h3 : wi main 0 ((fs.length : Int) - 1) = false := h
  rw [h3] at q3
  clear h h3
  go_enter Try.func8, Try.ntmps8
  go_wp2_with (first | ((with_reducible refine (q1.out _).mono ?_); rintro e w' ⟨rfl, rfl⟩) | ((with_reducible refine (q2.out _).mono ?_); rintro e w' ⟨rfl, rfl⟩) | ((with_reducible refine (q3.out _).mono ?_); rintro e w' ⟨rfl, rfl⟩))
  go_ret
  exact ⟨rfl, hB.out⟩
set_option maxHeartbeats 16000000 in
set_option maxRecDepth 100000 in
theorem check_yes (h : (wi (fs.length : Int) 1 256 && (wi glob 0 65536 && wi main 0 ((fs.length : Int) - 1))) = true) (hgd : Aside0 (∀ f ∈ fs, gd33 f)) (hf : Aside0 (Kd.C k33 w A0 fs.length fs)) (hd : Aside0 (Kd.C k51 w A2 ds.length ds)) :
    Calls Try.prog 8 #[pv A0 fs.length c0 glob A2 ds.length c2 main] w (RetB (.int .i64 (cer (progB fs glob main ds))) w) := by
  have hB1 : Aside0 (Below w.heap.size w (w.alloc (pb A0 fs.length c0 glob A2 ds.length c2 main))) := ⟨below_alloc (Below.refl _ _) _⟩
  have hP1 : Aside0 ((w.alloc (pb A0 fs.length c0 glob A2 ds.length c2 main)).heap[w.heap.size]? = some (pb A0 fs.length c0 glob A2 ds.length c2 main)) := ⟨blk_new w _⟩
  have hmx := Kd.C_max hf.out
  have hmxd := Kd.C_max hd.out
  have hwl : IntKind.i64.wrap ((fs.length : Int) - 1) = (fs.length : Int) - 1 := IntWalk.i64_in _ (by omega)
  simp only [Bool.and_eq_true] at h
  obtain ⟨h1, h2, h3⟩ := h
  have hfin : Aside0 (progB fs glob main ds = (datTo glob ds ds.length && (funcsTo fs glob fs.length && (fs.getD main.toNat z33).f1 == 0))) := ⟨by unfold progB; rw [h1, h2, h3]; rfl⟩
  have q1 := Aside0.mk (within (fs.length : Int) 1 256)
  have q2 := Aside0.mk (within glob 0 65536)
  have q3 := Aside0.mk (within main 0 ((fs.length : Int) - 1))
  rw [h1] at q1
  rw [h2] at q2
  rw [h3] at q3
  have hs : (0 ≤ glob ∧ glob ≤ 65536) ∧ 0 ≤ main ∧ main < fs.length := by unfold wi at h1 h2 h3; simp at h1 h2 h3; omega
  obtain ⟨⟨g0, g1⟩, m0, m1⟩ := hs
  clear h1 h2 h3
  go_enter Try.func8, Try.ntmps8
  go_wp2_with (first | ((with_reducible refine (q1.out _).mono ?_); rintro e w' ⟨rfl, rfl⟩) | ((with_reducible refine (q2.out _).mono ?_); rintro e w' ⟨rfl, rfl⟩) | ((with_reducible refine (q3.out _).mono ?_); rintro e w' ⟨rfl, rfl⟩))
  clear q1 q2 q3
  go_loopw [3, 32] (fun s i wr => ∃ j : Nat, j ≤ ds.length ∧ i = .int .i64 j ∧ s = .int .i64 (atOf ds j) ∧ Aside0 (wr.heap[w.heap.size]? = some (pb A0 fs.length c0 glob A2 ds.length c2 main)) ∧ Aside0 (Below w.heap.size w wr) ∧ Aside0 (datTo glob ds j = true)) (fun _ i _ => ds.length - (intOf i).toNat)
  case atStart => exact ⟨0, by omega, rfl, rfl, hP1, hB1, ⟨rfl⟩⟩
  case round =>
    obtain ⟨j, hj, rfl, rfl, hP2, hB2, hD2⟩ := hrel
    clear hP1 hB1
    have hat := atOf_in g0 ds j hD2.out
    by_cases hlt : j < ds.length
    · obtain ⟨ad, e, x0, x1⟩ := at_T51 hd.out (j : Int) (by omega) (by omega)
      cases e
      simp only [Int.toNat_natCast] at x0 x1
      replace x0 := (hB2.out.cell (World.block_lt_of_cell? w _ x0)).trans x0
      replace x1 := (hB2.out.cell (World.block_lt_of_cell? w _ x1)).trans x1
      have hst := range_all (fun i => datOk glob (atOf ds i) (ds.getD i z51)) j
      have hno := range_no (p := fun i => datOk glob (atOf ds i) (ds.getD i z51)) hlt
      have hat2 : atOf ds (j + 1) = (ds.getD j z51).f0 + ((ds.getD j z51).f1.size : Int) := rfl
      rw [T51_nat] at x0 x1
      try dsimp only at hst hno
      generalize ds.getD j z51 = d at *
      generalize atOf ds j = a at *
      replace hat2 := Aside0.mk hat2
      have hP3 := Aside0.mk (blk_alloc hP2.out (db d))
      have hB3 := Aside0.mk (below_step hB2.out (below_alloc (Below.refl wr.heap.size wr) (db d)))
      have p1 : (wr.alloc (db d)).cell? ⟨w.heap.size, 1, none⟩ = some (.int .i64 glob) := (blk_cell hP3.out 1).trans rfl
      obtain ⟨ha0, ha1⟩ := hat
      have hdat : datOk glob a d = (decide (a ≤ d.f0) && (decide (0 < d.f1.size) && (decide (d.f0 ≤ glob) && decide ((d.f1.size : Int) ≤ glob - d.f0)))) := rfl
      by_cases k1 : d.f0 < a
      · have hres : Aside0 (cer (progB fs glob main ds) = 1) := ⟨by rw [hfin.out, show datTo glob ds ds.length = false from hno (by rw [hdat]; simp; omega)]; rfl⟩
        clear hst hno hdat hfin hP2 hB2
        go_wp2
        go_ret
        rw [hres.out]
        exact ⟨rfl, hB3.out⟩
      · by_cases k2 : d.f1.size = 0
        · have hres : Aside0 (cer (progB fs glob main ds) = 1) := ⟨by rw [hfin.out, show datTo glob ds ds.length = false from hno (by rw [hdat]; simp [k2])]; rfl⟩
          have e0 : d.f1 = ⟨#[]⟩ := by
            obtain ⟨_, s⟩ := d
            obtain ⟨⟨l⟩⟩ := s
            cases l
            · rfl
            · simp [ByteArray.size] at k2
          have e1 : d.f1.toList.isEmpty = true := by rw [e0, nil_toList]; rfl
          have e2 : (!d.f1.toList.isEmpty) = false := by rw [e1]; rfl
          clear hst hno hdat hfin hP2 hB2 k2 e0
          go_wp2
          go_ret
          rw [hres.out]
          exact ⟨rfl, hB3.out⟩
        · have e1 : (d.f1 == (⟨#[]⟩ : ByteArray)) = false := by
            rw [← Bool.not_eq_true, MapKept.bytes_beq]
            intro e
            rw [e] at k2
            exact k2 rfl
          rw [beq_toListBytes] at e1
          have e2 : d.f1.toList.isEmpty = false := by
            rw [← Bool.not_eq_true, List.isEmpty_iff]
            intro e
            rw [e, nil_toList] at e1
            cases e1
          have e3 : (!d.f1.toList.isEmpty) = true := by rw [e2]; rfl
          have e4 : ¬ d.f1.toList = [] := by intro e; rw [e] at e2; cases e2
          clear e1
          by_cases k3 : glob < d.f0
          · have hres : Aside0 (cer (progB fs glob main ds) = 1) := ⟨by rw [hfin.out, show datTo glob ds ds.length = false from hno (by rw [hdat]; simp; omega)]; rfl⟩
            clear hst hno hdat hfin hP2 hB2 k2
            go_wp2
            go_ret
            rw [hres.out]
            exact ⟨rfl, hB3.out⟩
          · by_cases k4 : glob - d.f0 < (d.f1.size : Int)
            · have hres : Aside0 (cer (progB fs glob main ds) = 1) := ⟨by rw [hfin.out, show datTo glob ds ds.length = false from hno (by rw [hdat]; simp; omega)]; rfl⟩
              clear hst hno hdat hfin hP2 hB2 k2
              go_wp2
              go_ret
              rw [hres.out]
              exact ⟨rfl, hB3.out⟩
            · have hD3 : Aside0 (datTo glob ds (j + 1) = true) := ⟨by have h := hD2.out; unfold datTo at h ⊢; rw [hst, h, hdat]; simp; omega⟩
              clear hst hno hdat hfin hP2 hB2 k2
              go_wp2
              exact ⟨⟨j + 1, by omega, by go_num, by rw [hat2.out], hP3, hB3, hD3⟩, by simp [intOf]; omega⟩
    · obtain rfl : j = ds.length := by omega
      have hfin2 : Aside0 (progB fs glob main ds = (funcsTo fs glob fs.length && (fs.getD main.toNat z33).f1 == 0)) := ⟨by rw [hfin.out, hD2.out]; rfl⟩
      have p0 : wr.cell? ⟨w.heap.size, 0, none⟩ = some (.slice A0 fs.length c0) := (blk_cell hP2.out 0).trans rfl
      clear hfin hD2 hat
      go_wp2
      clear p0
      go_loopw [73] (fun i wr => ∃ j : Nat, j ≤ fs.length ∧ i = .int .i64 j ∧ Aside0 (wr.heap[w.heap.size]? = some (pb A0 fs.length c0 glob A2 ds.length c2 main)) ∧ Aside0 (Below w.heap.size w wr) ∧ Aside0 (funcsTo fs glob j = true)) (fun i _ => fs.length - (intOf i).toNat)
      case atStart => exact ⟨0, by omega, rfl, hP2, hB2, ⟨rfl⟩⟩
      case round =>
        obtain ⟨j, hj, rfl, hP3, hB3, hF3⟩ := hrel
        clear hP2 hB2
        have p0 : wr.cell? ⟨w.heap.size, 0, none⟩ = some (.slice A0 fs.length c0) := (blk_cell hP3.out 0).trans rfl
        have p3 : wr.cell? ⟨w.heap.size, 3, none⟩ = some (.int .i64 main) := (blk_cell hP3.out 3).trans rfl
        by_cases hlt : j < fs.length
        · obtain ⟨ad, A4, c4, e, x0, x1, x2, x3, x4, l4, g4⟩ := at_T33 hf.out (j : Int) (by omega) (by omega)
          cases e
          simp only [Int.toNat_natCast] at x0 x1 x2 x3 x4
          replace x0 := (hB3.out.cell (World.block_lt_of_cell? w _ x0)).trans x0
          replace x1 := (hB3.out.cell (World.block_lt_of_cell? w _ x1)).trans x1
          replace x2 := (hB3.out.cell (World.block_lt_of_cell? w _ x2)).trans x2
          replace x3 := (hB3.out.cell (World.block_lt_of_cell? w _ x3)).trans x3
          replace x4 := (hB3.out.cell (World.block_lt_of_cell? w _ x4)).trans x4
          have hst := range_all (fun i => checkB fs glob (fs.getD i z33).f1 (fs.getD i z33).f2 (fs.getD i z33).f3 (fs.getD i z33).f4) j
          have hno := range_no (p := fun i => checkB fs glob (fs.getD i z33).f1 (fs.getD i z33).f2 (fs.getD i z33).f3 (fs.getD i z33).f4) hlt
          have hgf := hgd.out (fs.getD j z33) (getD_mem fs z33 j hlt)
          rw [T33_nat] at x0 x1 x2 x3 x4 l4 g4
          try dsimp only at hst hno
          generalize fs.getD j z33 = f at *
          have bA := below_step hB3.out (below_alloc (Below.refl wr.heap.size wr) (fb f.f0 f.f1 f.f2 f.f3 A4 f.f4.length c4))
          have hP4 := Aside0.mk (blk_alloc hP3.out (fb f.f0 f.f1 f.f2 f.f3 A4 f.f4.length c4))
          have hcall := Aside0.mk (checkFunc (w := wr.alloc (fb f.f0 f.f1 f.f2 f.f3 A4 f.f4.length c4)) (A0 := some ad) (A2 := A2) (A8 := A4) (n0 := fs.length) (c0 := c0) (n2 := ds.length) (c2 := c2) (c8 := c4) (glob := glob) (main := main) (pa := f.f1) (re := f.f2) (sl := f.f3) (nm := f.f0) (fs := fs) (bs := f.f4) ⟨hgf⟩ rfl ⟨Kd.C_below hf.out bA⟩ ⟨Kd.C_below g4 bA⟩)
          have hB4 := Aside0.mk bA
          have p0' : (wr.alloc (fb f.f0 f.f1 f.f2 f.f3 A4 f.f4.length c4)).cell? ⟨w.heap.size, 0, none⟩ = some (.slice (some ad) fs.length c0) := (blk_cell hP4.out 0).trans rfl
          have p1' : (wr.alloc (fb f.f0 f.f1 f.f2 f.f3 A4 f.f4.length c4)).cell? ⟨w.heap.size, 1, none⟩ = some (.int .i64 glob) := (blk_cell hP4.out 1).trans rfl
          have p2' : (wr.alloc (fb f.f0 f.f1 f.f2 f.f3 A4 f.f4.length c4)).cell? ⟨w.heap.size, 2, none⟩ = some (.slice A2 ds.length c2) := (blk_cell hP4.out 2).trans rfl
          have p3' : (wr.alloc (fb f.f0 f.f1 f.f2 f.f3 A4 f.f4.length c4)).cell? ⟨w.heap.size, 3, none⟩ = some (.int .i64 main) := (blk_cell hP4.out 3).trans rfl
          clear g4 l4 bA p0 p3 hgf
          generalize hcv : checkB fs glob f.f1 f.f2 f.f3 f.f4 = cv at *
          cases cv
          · have hres : Aside0 (cer (progB fs glob main ds) = 1) := ⟨by rw [hfin2.out, show funcsTo fs glob fs.length = false from hno rfl]; rfl⟩
            have hcall : Aside0 (Calls Try.prog 12 #[pv (some ad) fs.length c0 glob A2 ds.length c2 main, fv f.f0 f.f1 f.f2 f.f3 A4 f.f4.length c4] (wr.alloc (fb f.f0 f.f1 f.f2 f.f3 A4 f.f4.length c4)) (RetB (.int .i64 1) (wr.alloc (fb f.f0 f.f1 f.f2 f.f3 A4 f.f4.length c4)))) := hcall
            clear hst hno hcv hP3 hB3
            go_wp2_with fail
            (with_reducible refine hcall.out.mono ?_)
            rintro e w7 ⟨rfl, b7⟩
            have hB7 := Aside0.mk (below_step hB4.out b7)
            clear b7
            go_wp2
            go_ret
            rw [hres.out]
            exact ⟨rfl, hB7.out⟩
          · have hcall : Aside0 (Calls Try.prog 12 #[pv (some ad) fs.length c0 glob A2 ds.length c2 main, fv f.f0 f.f1 f.f2 f.f3 A4 f.f4.length c4] (wr.alloc (fb f.f0 f.f1 f.f2 f.f3 A4 f.f4.length c4)) (RetB (.int .i64 0) (wr.alloc (fb f.f0 f.f1 f.f2 f.f3 A4 f.f4.length c4)))) := hcall
            have hF4 : Aside0 (funcsTo fs glob (j + 1) = true) := ⟨by have h := hF3.out; unfold funcsTo at h ⊢; rw [hst, h]; rfl⟩
            clear hst hno hcv hP3 hB3
            go_wp2_with fail
            (with_reducible refine hcall.out.mono ?_)
            rintro e w7 ⟨rfl, b7⟩
            have hB7 := Aside0.mk (below_step hB4.out b7)
            have hP7 := Aside0.mk ((b7.block _ (blk_lt hP4.out)).trans hP4.out)
            clear b7
            go_wp2
            exact ⟨⟨j + 1, by omega, by go_num, hP7, hB7, hF4⟩, by simp [intOf]; omega⟩
        · obtain rfl : j = fs.length := by omega
          obtain ⟨ad, A4, c4, e, x0, x1, x2, x3, x4, l4, g4⟩ := at_T33 hf.out main m0 m1
          cases e
          replace x1 := (hB3.out.cell (World.block_lt_of_cell? w _ x1)).trans x1
          have em : rd_T33 fs main = fs.getD main.toNat z33 := rfl
          rw [em] at x1
          have hfin3 : Aside0 (progB fs glob main ds = ((fs.getD main.toNat z33).f1 == 0)) := ⟨by rw [hfin2.out, hF3.out]; rfl⟩
          clear x0 x2 x3 x4 l4 g4 em hfin2
          generalize (fs.getD main.toNat z33).f1 = y at *
          cases hy : (y == 0)
          · have hy2 : (y != 0) = true := by rw [show (y != 0) = !(y == 0) from rfl, hy]; rfl
            have hres : Aside0 (cer (progB fs glob main ds) = 1) := ⟨by rw [hfin3.out, hy]; rfl⟩
            clear hy
            go_wp2
            go_ret
            rw [hres.out]
            exact ⟨rfl, hB3.out⟩
          · have hy2 : (y != 0) = false := by rw [show (y != 0) = !(y == 0) from rfl, hy]; rfl
            have hres : Aside0 (cer (progB fs glob main ds) = 0) := ⟨by rw [hfin3.out, hy]; rfl⟩
            clear hy
            go_wp2
            go_ret
            rw [hres.out]
            exact ⟨rfl, hB3.out⟩
theorem check (hgd : Aside0 (∀ f ∈ fs, gd33 f)) (hf : Aside0 (Kd.C k33 w A0 fs.length fs)) (hd : Aside0 (Kd.C k51 w A2 ds.length ds)) :
    Calls Try.prog 8 #[pv A0 fs.length c0 glob A2 ds.length c2 main] w (RetB (.int .i64 (cer (progB fs glob main ds))) w) := by
  cases h : (wi (fs.length : Int) 1 256 && (wi glob 0 65536 && wi main 0 ((fs.length : Int) - 1)))
  · have : progB fs glob main ds = false := by
      unfold progB
      revert h
      cases wi (fs.length : Int) 1 256 <;> cases wi glob 0 65536 <;> cases wi main 0 ((fs.length : Int) - 1) <;> simp
    rw [this]
    exact check_no (Kd.C_max hf.out) h
  · exact check_yes h hgd hf hd
end Go.Proofs.Ytobikiffjanagaa.IrA
end
section
namespace Go.Proofs.Ytobikiffjanagaa.IrA
open Go.RowKit Go.Proofs.YtobikiffjanagaaW.PrintWords Go.Proofs.YtobikiffjanagaaW.PrintLast Go.Proofs.YtobikiffjanagaaW.PrintMore Go.Proofs.Ytobikiffjanagaa.GF
set_option linter.unusedVariables false
set_option linter.unusedSimpArgs false
theorem C_one {α : Type} {k : Kd α} {w : World} {g : Nat} {p : α} {c : List Value} (hl : c.length = k.sz) (hK : k.K w p c) (hc : ∀ q u, c[q]? = some u → w.cell? ⟨g, q, none⟩ = some u) : Kd.C k w (some ⟨g, 0, none⟩) 1 [p] := by
  refine ⟨rfl, by omega, fun _ => ⟨⟨g, 0, none⟩, rfl, fun i x hx => ?_⟩⟩
  have h0 : i = 0 := by
    have := (List.getElem?_eq_some_iff.1 hx).1
    simpa using this
  subst h0
  have : p = x := by simpa using hx
  subst this
  refine ⟨c, hl, hK, fun q u hq => ?_⟩
  rw [add_plain]
  have e : 0 * k.sz + q = q := by omega
  rw [e]
  exact hc q u hq
def b1 : S58 := ⟨[], 3, -1, []⟩
def f1 : S33 := ⟨⟨#[109, 97, 105, 110]⟩, 0, 0, 0, [b1]⟩
set_option maxHeartbeats 8000000 in
set_option maxRecDepth 100000 in
theorem one (w : World) : Calls Try.prog 26 #[] w fun e w' => ∃ gF, e = .returned (pv (some ⟨gF, 0, none⟩) 1 1 0 none 0 0 0) ∧ Aside0 (Kd.C k33 w' (some ⟨gF, 0, none⟩) 1 [f1]) ∧ Aside0 (Below w.heap.size w w') := by
  go_enter Try.func26, Try.ntmps26
  go_wp2
  have e0 := blk_new w (.cells #[.slice (some ⟨w.heap.size + 1 + 1, 0, none⟩) 1 1, .int .i64 0, .slice none 0 0, .int .i64 0] 25)
  generalize hW1 : w.alloc (.cells #[.slice (some ⟨w.heap.size + 1 + 1, 0, none⟩) 1 1, .int .i64 0, .slice none 0 0, .int .i64 0] 25) = W1 at *
  have s1 : W1.heap.size = w.heap.size + 1 := by rw [← hW1]; simp
  have e1 := blk_new W1 (.cells #[.slice none 0 0, .int .i64 3, .int .i64 (-1), .slice none 0 0] 58)
  generalize hW2 : W1.alloc (.cells #[.slice none 0 0, .int .i64 3, .int .i64 (-1), .slice none 0 0] 58) = W2 at *
  have s2 : W2.heap.size = w.heap.size + 1 + 1 := by rw [← hW2]; simp [s1]
  have e2 := blk_new W2 (.cells #[.string ⟨#[109, 97, 105, 110]⟩, .int .i64 0, .int .i64 0, .int .i64 0, .slice (some ⟨w.heap.size + 1, 0, none⟩) 1 1] 33)
  rw [s1] at e1
  rw [s2] at e2
  have c1 : Kd.C k58 (W2.alloc (.cells #[.string ⟨#[109, 97, 105, 110]⟩, .int .i64 0, .int .i64 0, .int .i64 0, .slice (some ⟨w.heap.size + 1, 0, none⟩) 1 1] 33)) (some ⟨w.heap.size + 1, 0, none⟩) 1 [b1] :=
    C_one (c := [.slice none 0 0, .int .i64 3, .int .i64 (-1), .slice none 0 0]) rfl (k58_mk _ b1 (Nat.le_refl _) (Kd.C_nil _ _) (Nat.le_refl _) (Kd.C_nil _ _)) (fun q u hq => by rw [blk_cell (blk_alloc e1 _) q]; simpa using hq)
  have c2 : Kd.C k33 (W2.alloc (.cells #[.string ⟨#[109, 97, 105, 110]⟩, .int .i64 0, .int .i64 0, .int .i64 0, .slice (some ⟨w.heap.size + 1, 0, none⟩) 1 1] 33)) (some ⟨w.heap.size + 1 + 1, 0, none⟩) 1 [f1] :=
    C_one (c := [.string ⟨#[109, 97, 105, 110]⟩, .int .i64 0, .int .i64 0, .int .i64 0, .slice (some ⟨w.heap.size + 1, 0, none⟩) 1 1]) rfl (k33_mk _ f1 (Nat.le_refl _) c1) (fun q u hq => by rw [blk_cell e2 q]; simpa using hq)
  have hB : Below w.heap.size w (W2.alloc (.cells #[.string ⟨#[109, 97, 105, 110]⟩, .int .i64 0, .int .i64 0, .int .i64 0, .slice (some ⟨w.heap.size + 1, 0, none⟩) 1 1] 33)) := by
    rw [← hW2, ← hW1]
    exact below_alloc (below_alloc (below_alloc (Below.refl _ _) _) _) _
  have e3 : (W2.alloc (.cells #[.string ⟨#[109, 97, 105, 110]⟩, .int .i64 0, .int .i64 0, .int .i64 0, .slice (some ⟨w.heap.size + 1, 0, none⟩) 1 1] 33)).heap[w.heap.size]? = some (.cells #[.slice (some ⟨w.heap.size + 1 + 1, 0, none⟩) 1 1, .int .i64 0, .slice none 0 0, .int .i64 0] 25 (0, 0)) := by
    rw [← hW2]
    exact blk_alloc (blk_alloc e0 _) _
  refine bodyPost_ret (results_cell_row rfl _ _ w.heap.size 25 #[.slice (some ⟨w.heap.size + 1 + 1, 0, none⟩) 1 1, .int .i64 0, .slice none 0 0, .int .i64 0] (0, 0) _ rfl e3 Try.underlying25 rfl (by kernel_rfl)) rfl ⟨w.heap.size + 1 + 1, rfl, ⟨c2⟩, ⟨hB⟩⟩
theorem gd_one : ∀ f ∈ [f1], gd33 f := by
  intro f hf b hb
  rw [List.mem_singleton.1 hf] at hb
  rw [List.mem_singleton.1 hb]
  exact ⟨by simp [b1], by simp [b1]⟩
theorem prog_one : progB [f1] 0 0 [] = true := by decide
theorem prog_none : progB [] 0 0 [] = false := by decide
set_option maxHeartbeats 8000000 in
set_option maxRecDepth 100000 in
theorem awake (w : World) : Calls Try.prog 11 #[] w (RetB (.bool true) w) := by
  go_enter Try.func11, Try.ntmps11
  go_wp2_with fail
  (with_reducible refine (one w).mono ?_)
  rintro e w1 ⟨gF, rfl, hC, hB⟩
  have hP : Aside0 ((w1.alloc (pb (some ⟨gF, 0, none⟩) 1 1 0 none 0 0 0)).heap[w1.heap.size]? = some (pb (some ⟨gF, 0, none⟩) 1 1 0 none 0 0 0)) := ⟨blk_new w1 _⟩
  have hB2 := Aside0.mk (below_step hB.out (below_alloc (Below.refl w1.heap.size w1) (pb (some ⟨gF, 0, none⟩) 1 1 0 none 0 0 0)))
  have hC2 := Aside0.mk (Kd.C_below hC.out (below_alloc (Below.refl w1.heap.size w1) (pb (some ⟨gF, 0, none⟩) 1 1 0 none 0 0 0)))
  obtain ⟨ad, A4, c4, e, x0, x1, x2, x3, x4, l4, g4⟩ := at_T33 hC2.out 0 (by omega) (by omega)
  cases e
  have er : rd_T33 [f1] 0 = f1 := rfl
  rw [er] at x0 x1 x2 x3 x4 g4
  simp only [add_plain, Int.toNat_zero, Nat.zero_mul] at x0 x1 x2 x3 x4
  clear hC hB er l4
  go_wp2_with fail
  (with_reducible refine (reached_walk f1.f0 f1.f1 f1.f2 f1.f3 A4 c4 f1.f4 ⟨g4⟩ (by decide)).mono ?_)
  rintro e w2 ⟨v, rfl, hM, b2⟩
  have hP2 := Aside0.mk ((b2.block _ (blk_lt hP.out)).trans hP.out)
  have hB3 := Aside0.mk (below_step hB2.out b2)
  have hC3 := Aside0.mk (Kd.C_below hC2.out b2)
  obtain ⟨gl, cl, e, hgb, hgl, _⟩ := Kd.R_form hM (show 0 < (reached f1.f4).length by decide)
  have elen : (reached f1.f4).length = 1 := by decide
  rw [elen] at e
  subst e
  have hM2 := Aside0.mk (Kd.R_reads' hM).2.2
  have p0 : w2.cell? ⟨w1.heap.size, 0, none⟩ = some (.slice (some ⟨gF, 0, none⟩) 1 1) := (blk_cell hP2.out 0).trans rfl
  have p1 : w2.cell? ⟨w1.heap.size, 1, none⟩ = some (.int .i64 0) := (blk_cell hP2.out 1).trans rfl
  have p2 : w2.cell? ⟨w1.heap.size, 2, none⟩ = some (.slice none 0 0) := (blk_cell hP2.out 2).trans rfl
  have p3 : w2.cell? ⟨w1.heap.size, 3, none⟩ = some (.int .i64 0) := (blk_cell hP2.out 3).trans rfl
  clear hM b2 hC2 hB2 hP x0 x1 x2 x3 x4 g4
  have k1 : Aside0 (Calls Try.prog 8 #[pv (some ⟨gF, 0, none⟩) 1 1 0 none 0 0 0] w2 (RetB (.int .i64 0) w2)) := ⟨by
    have := check (w := w2) (A0 := some ⟨gF, 0, none⟩) (A2 := none) (c0 := 1) (c2 := 0) (glob := 0) (main := 0) (fs := [f1]) (ds := []) ⟨gd_one⟩ hC3 ⟨Kd.C_nil _ _⟩
    rw [prog_one] at this
    exact this⟩
  go_wp2_with fail
  (with_reducible refine k1.out.mono ?_)
  rintro e w3 ⟨rfl, b3⟩
  have hB4 := Aside0.mk (below_step hB3.out b3)
  have hM3 := Aside0.mk (Kd.C_below hM2.out b3)
  clear b3 hC3 hB3 hM2 p0 p1 p2 p3 hP2 k1
  have k2 : Aside0 (Calls Try.prog 8 #[pv none 0 0 0 none 0 0 0] w3 (RetB (.int .i64 1) w3)) := ⟨by
    have := check (w := w3) (A0 := none) (A2 := none) (c0 := 0) (c2 := 0) (glob := 0) (main := 0) (fs := []) (ds := []) ⟨fun f hf => by cases hf⟩ ⟨Kd.C_nil _ _⟩ ⟨Kd.C_nil _ _⟩
    rw [prog_none] at this
    exact this⟩
  go_wp2_with fail
  (with_reducible refine k2.out.mono ?_)
  rintro e w4 ⟨rfl, b4⟩
  have hB5 := Aside0.mk (below_step hB4.out b4)
  have hM4 := Kd.C_below hM3.out b4
  obtain ⟨ad, e, x0⟩ := Kd.at_bool hM4 0 (by omega) (by omega)
  cases e
  have er : rdOf false (reached f1.f4) 0 = true := by decide
  rw [er] at x0
  simp only [add_plain, Int.toNat_zero] at x0
  clear b4 hM3 hM4 hB4 er k2
  go_wp2
  go_ret
  exact ⟨rfl, hB5.out⟩
end Go.Proofs.Ytobikiffjanagaa.IrA
end
section
namespace Go.Proofs.Ytobikiffjanagaa.Cpy
open Go.RowKit Go.Proofs.YtobikiffjanagaaW.PrintWords Go.Proofs.YtobikiffjanagaaW.PrintLast Go.Proofs.YtobikiffjanagaaW.PrintMore Go.Proofs.Ytobikiffjanagaa.PIrCopies
set_option linter.unusedVariables false
set_option linter.unusedSimpArgs false
theorem heap44 : Kd.Heap k44 := Kd.heap_iso _ (Kd.heap_pair (Kd.heap_int _) (Kd.heap_pair (Kd.heap_int _) (Kd.heap_pair (Kd.heap_slice 3 (Kd.heap_int _)) (Kd.heap_pair (Kd.heap_int _) (Kd.heap_pair (Kd.heap_int _) (Kd.heap_pair (Kd.heap_int _) (Kd.heap_slice 3 (Kd.heap_int _))))))))
theorem heap58 : Kd.Heap k58 := Kd.heap_iso _ (Kd.heap_pair (Kd.heap_slice 44 heap44) (Kd.heap_pair (Kd.heap_int _) (Kd.heap_pair (Kd.heap_int _) (Kd.heap_slice 3 (Kd.heap_int _)))))
theorem ref_same {W : World} {x y : S33} {A B : Option Addr} {c d : Nat} (hx : k58.C W A x.f4.length x.f4) (lx : x.f4.length ≤ c) (hy : k58.C W B y.f4.length y.f4) (ly : y.f4.length ≤ d) (hz : szF x) :
    Calls Try.prog 22 #[agF x (.slice A x.f4.length c), agF y (.slice B y.f4.length d)] W fun e w' => e = .returned (.bool (funE x y)) ∧ Below W.heap.size W w' := by
  obtain ⟨k, hk⟩ := same_f x y hz
  exact crucibleref14_Same.calls k _ _ _ _ _ _ _ _ _ _ _ _ _ _ _ W hx lx hy ly hk
theorem below_kept {w W W' : World} {S : Nat → Prop} (hb : Below w.heap.size w W) (hk : Kept W W' S) (hS : ∀ k, S k → w.heap.size ≤ k) (io : W'.os = W.os ∧ W'.tape = W.tape ∧ W'.output = W.output) : Below w.heap.size w W' :=
  ⟨io.1.trans hb.os, io.2.1.trans hb.tape, io.2.2.trans hb.output, Nat.le_trans hb.size hk.1, fun k hlt => (hk.2 k (Nat.lt_of_lt_of_le hlt hb.size) (fun h => by have := hS k h; omega)).trans (hb.block k hlt)⟩
theorem kept_cell {W W' : World} {S : Nat → Prop} (hk : Kept W W' S) {p : Addr} {v : Value} (hc : W.cell? p = some v) (hn : ¬ S p.block) : W'.cell? p = some v := by
  rw [← hc]; exact World.cell?_of_block (hk.2 _ (World.block_lt_of_cell? _ _ hc) hn)
set_option maxHeartbeats 16000000 in
set_option maxRecDepth 100000 in
theorem copies_law {w : World} {x y : S33} {A B : Option Addr} {c d : Nat} (hx : Aside0 (k58.C w A x.f4.length x.f4)) (lx : x.f4.length ≤ c) (hy : Aside0 (k58.C w B y.f4.length y.f4)) (ly : y.f4.length ≤ d) (hz : Aside0 (szF x)) :
    Calls Try.prog 7 #[agF x (.slice A x.f4.length c), agF y (.slice B y.f4.length d)] w fun e w' => e = .returned (.bool true) ∧ Below w.heap.size w w' := by
  have X0 := Aside0.mk (blk_alloc (blk_new w (fO x (.slice A x.f4.length c))) (fO y (.slice B y.f4.length d)))
  have Y0 : Aside0 (((w.alloc (fO x (.slice A x.f4.length c))).alloc (fO y (.slice B y.f4.length d))).heap[w.heap.size + 1]? = some (fO y (.slice B y.f4.length d))) := ⟨by have := blk_new (w.alloc (fO x (.slice A x.f4.length c))) (fO y (.slice B y.f4.length d)); simpa using this⟩
  have LW : Aside0 (Below w.heap.size w ((w.alloc (fO x (.slice A x.f4.length c))).alloc (fO y (.slice B y.f4.length d)))) := ⟨below_alloc (below_alloc (Below.refl _ _) _) _⟩
  replace hx := Aside0.mk (Kd.C_below hx.out LW.out)
  replace hy := Aside0.mk (Kd.C_below hy.out LW.out)
  go_enter Try.func7, Try.ntmps7
  go_upto_region 1 with (fail)
  generalize (w.alloc (fO x (.slice A x.f4.length c))).alloc (fO y (.slice B y.f4.length d)) = W1 at *
  generalize w.heap.size + 1 = yb at *
  have hcp := Aside0.mk (copy_calls hx.out lx hz.out)
  have p0 := (blk_cell X0.out 0).trans (show _ = some (.string x.f0) from rfl)
  have p1 := (blk_cell X0.out 1).trans (show _ = some (.int .i64 x.f1) from rfl)
  have p2 := (blk_cell X0.out 2).trans (show _ = some (.int .i64 x.f2) from rfl)
  have p3 := (blk_cell X0.out 3).trans (show _ = some (.int .i64 x.f3) from rfl)
  have p4 := (blk_cell X0.out 4).trans (show _ = some (.slice A x.f4.length c) from rfl)
  go_upto_region 2 with (go_at_call 21; (with_reducible refine hcp.out.mono ?_); rintro e w2 ⟨v, rfl, hv, hb⟩; obtain ⟨C2, c2, hve⟩ := Kd.R_slice hv; subst hve; replace hv := Aside0.mk hv; replace hb := Aside0.mk hb; clear hcp)
  have C0 := Aside0.mk (blk_new w2 (fO x (.slice C2 x.f4.length c2)))
  have L2 : Aside0 (Below W1.heap.size W1 (w2.alloc (fO x (.slice C2 x.f4.length c2)))) := ⟨below_alloc hb.out _⟩
  have hR2 := Aside0.mk (Kd.R_alloc (Kd.R_mono (ok' := fun k => W1.heap.size ≤ k ∧ k < w2.heap.size) (Kd.R_bound hv.out) (fun k hk => ⟨hk.2.1, hk.2.2.1⟩)) (fO x (.slice C2 x.f4.length c2)))
  have hw2 : Aside0 (W1.heap.size ≤ w2.heap.size ∧ w2.heap.size < (w2.alloc (fO x (.slice C2 x.f4.length c2))).heap.size) := ⟨hb.out.size, blk_lt C0.out⟩
  clear hv hb
  generalize e2 : w2.alloc (fO x (.slice C2 x.f4.length c2)) = W2 at *
  generalize e3 : w2.heap.size = gc at *
  have hCc := Aside0.mk (Kd.R_reads' hR2.out)
  have hcp := Aside0.mk (copy_calls hCc.out.2.2 hCc.out.2.1 hz.out)
  have c0 := (blk_cell C0.out 0).trans (show _ = some (.string x.f0) from rfl)
  have c1 := (blk_cell C0.out 1).trans (show _ = some (.int .i64 x.f1) from rfl)
  have c2_ := (blk_cell C0.out 2).trans (show _ = some (.int .i64 x.f2) from rfl)
  have c3 := (blk_cell C0.out 3).trans (show _ = some (.int .i64 x.f3) from rfl)
  have c4 := (blk_cell C0.out 4).trans (show _ = some (.slice C2 x.f4.length c2) from rfl)
  go_upto_region 3 with (go_at_call 21; (with_reducible refine hcp.out.mono ?_); rintro e w3 ⟨v, rfl, hv, hb⟩; obtain ⟨D2, d2, hve⟩ := Kd.R_slice hv; subst hve; replace hv := Aside0.mk hv; replace hb := Aside0.mk hb; clear hcp)
  have D0 := Aside0.mk (blk_new w3 (fO x (.slice D2 x.f4.length d2)))
  have L3 : Aside0 (Below W2.heap.size W2 (w3.alloc (fO x (.slice D2 x.f4.length d2)))) := ⟨below_alloc hb.out _⟩
  have hR3 := Aside0.mk (Kd.R_alloc (Kd.R_mono (ok' := fun k => W2.heap.size ≤ k) (Kd.R_bound hv.out) (fun k hk => hk.2.1)) (fO x (.slice D2 x.f4.length d2)))
  have hw3 : Aside0 (W2.heap.size ≤ w3.heap.size) := ⟨hb.out.size⟩
  clear hv hb e2 e3
  generalize w3.alloc (fO x (.slice D2 x.f4.length d2)) = W3 at *
  generalize w3.heap.size = gd at *
  replace hx : Aside0 (k58.C W3 A x.f4.length x.f4 ∧ ∀ W', Kept W3 W' (fun k => W1.heap.size ≤ k ∧ k < gc) → k58.C W' A x.f4.length x.f4) := ⟨Kd.C_below (Kd.C_below hx.out L2.out) L3.out, Kd.C_kept_came heap58 hx.out (below_step L2.out L3.out) (fun k hk => hk.1)⟩
  replace hy := Aside0.mk (Kd.C_below (Kd.C_below hy.out L2.out) L3.out)
  have hsz1 : Aside0 (w.heap.size < W1.heap.size ∧ yb < W1.heap.size) := ⟨blk_lt X0.out, blk_lt Y0.out⟩
  have L13 := Aside0.mk (below_step L2.out L3.out)
  have hC3 := Aside0.mk (Kd.C_below hCc.out.2.2 L3.out)
  have hD3 : Aside0 (∀ W', Kept W3 W' (fun k => W1.heap.size ≤ k ∧ k < gc) → k58.C W' D2 x.f4.length x.f4) := ⟨fun W' hk => Kd.F_now (Kd.F_kept (Kd.R_F hR3.out) hk (fun k hk h => by have := hw2.out; omega))⟩
  have d5 := (Kd.R_reads' hR3.out).2.1
  have c5 := hCc.out.2.1
  have hSR : Aside0 (∀ W, Below W3.heap.size W3 W → k58.R 58 W W1.heap.size (fun k => W1.heap.size ≤ k ∧ k < gc) (.slice C2 x.f4.length c2) x.f4) := ⟨fun W hb => Kd.R_below (Kd.R_below hR2.out L3.out) hb⟩
  replace p0 := (Below.cell L13.out hsz1.out.1).trans p0
  replace p1 := (Below.cell L13.out (p := ⟨w.heap.size, 1, none⟩) hsz1.out.1).trans p1
  replace p2 := (Below.cell L13.out (p := ⟨w.heap.size, 2, none⟩) hsz1.out.1).trans p2
  replace p3 := (Below.cell L13.out (p := ⟨w.heap.size, 3, none⟩) hsz1.out.1).trans p3
  replace p4 := (Below.cell L13.out (p := ⟨w.heap.size, 4, none⟩) hsz1.out.1).trans p4
  have q0 := (Below.cell L13.out (p := ⟨yb, 0, none⟩) hsz1.out.2).trans ((blk_cell Y0.out 0).trans (show _ = some (.string y.f0) from rfl))
  have q1 := (Below.cell L13.out (p := ⟨yb, 1, none⟩) hsz1.out.2).trans ((blk_cell Y0.out 1).trans (show _ = some (.int .i64 y.f1) from rfl))
  have q2 := (Below.cell L13.out (p := ⟨yb, 2, none⟩) hsz1.out.2).trans ((blk_cell Y0.out 2).trans (show _ = some (.int .i64 y.f2) from rfl))
  have q3 := (Below.cell L13.out (p := ⟨yb, 3, none⟩) hsz1.out.2).trans ((blk_cell Y0.out 3).trans (show _ = some (.int .i64 y.f3) from rfl))
  have q4 := (Below.cell L13.out (p := ⟨yb, 4, none⟩) hsz1.out.2).trans ((blk_cell Y0.out 4).trans (show _ = some (.slice B y.f4.length d) from rfl))
  replace c0 := (Below.cell L3.out (p := ⟨gc, 0, none⟩) hw2.out.2).trans c0
  replace c1 := (Below.cell L3.out (p := ⟨gc, 1, none⟩) hw2.out.2).trans c1
  replace c2_ := (Below.cell L3.out (p := ⟨gc, 2, none⟩) hw2.out.2).trans c2_
  replace c3 := (Below.cell L3.out (p := ⟨gc, 3, none⟩) hw2.out.2).trans c3
  replace c4 := (Below.cell L3.out (p := ⟨gc, 4, none⟩) hw2.out.2).trans c4
  have b0 := (blk_cell D0.out 0).trans (show _ = some (.string x.f0) from rfl)
  have b1 := (blk_cell D0.out 1).trans (show _ = some (.int .i64 x.f1) from rfl)
  have b2 := (blk_cell D0.out 2).trans (show _ = some (.int .i64 x.f2) from rfl)
  have b3 := (blk_cell D0.out 3).trans (show _ = some (.int .i64 x.f3) from rfl)
  have b4 := (blk_cell D0.out 4).trans (show _ = some (.slice D2 x.f4.length d2) from rfl)
  have LW3 := Aside0.mk (below_step LW.out L13.out)
  have hfin : Aside0 (∀ W', Kept W3 W' (fun k => W1.heap.size ≤ k ∧ k < gc) → (W'.os = W3.os ∧ W'.tape = W3.tape ∧ W'.output = W3.output) → Below w.heap.size w W') := ⟨fun W' hk io => below_kept LW3.out hk (fun k hk => Nat.le_trans LW.out.size hk.1) io⟩
  have hne : Aside0 (∀ j, ¬ (W1.heap.size ≤ (⟨w.heap.size, j, none⟩ : Addr).block ∧ (⟨w.heap.size, j, none⟩ : Addr).block < gc) ∧ ¬ (W1.heap.size ≤ (⟨gd, j, none⟩ : Addr).block ∧ (⟨gd, j, none⟩ : Addr).block < gc)) := ⟨fun j => ⟨fun h => by have h2 : W1.heap.size ≤ w.heap.size := h.1; have := hsz1.out.1; omega, fun h => by have h2 : gd < gc := h.2; have := hw2.out.2; have := hw3.out; omega⟩⟩
  have hk6 : Aside0 (∀ W', Kept W3 W' (fun k => W1.heap.size ≤ k ∧ k < gc) → W'.cell? ⟨w.heap.size, 0, none⟩ = some (.string x.f0) ∧ W'.cell? ⟨w.heap.size, 1, none⟩ = some (.int .i64 x.f1) ∧ W'.cell? ⟨w.heap.size, 2, none⟩ = some (.int .i64 x.f2) ∧ W'.cell? ⟨w.heap.size, 3, none⟩ = some (.int .i64 x.f3) ∧ W'.cell? ⟨w.heap.size, 4, none⟩ = some (.slice A x.f4.length c) ∧ W'.cell? ⟨gd, 0, none⟩ = some (.string x.f0) ∧ W'.cell? ⟨gd, 1, none⟩ = some (.int .i64 x.f1) ∧ W'.cell? ⟨gd, 2, none⟩ = some (.int .i64 x.f2) ∧ W'.cell? ⟨gd, 3, none⟩ = some (.int .i64 x.f3) ∧ W'.cell? ⟨gd, 4, none⟩ = some (.slice D2 x.f4.length d2)) := ⟨fun W' hk => ⟨kept_cell hk p0 (hne.out 0).1, kept_cell hk p1 (hne.out 1).1, kept_cell hk p2 (hne.out 2).1, kept_cell hk p3 (hne.out 3).1, kept_cell hk p4 (hne.out 4).1, kept_cell hk b0 (hne.out 0).2, kept_cell hk b1 (hne.out 1).2, kept_cell hk b2 (hne.out 2).2, kept_cell hk b3 (hne.out 3).2, kept_cell hk b4 (hne.out 4).2⟩⟩
  have hkp : Aside0 (∀ W', Below W3.heap.size W3 W' → Below W3.heap.size W3 W' ∧ W'.cell? ⟨w.heap.size, 0, none⟩ = some (.string x.f0) ∧ W'.cell? ⟨w.heap.size, 1, none⟩ = some (.int .i64 x.f1) ∧ W'.cell? ⟨w.heap.size, 2, none⟩ = some (.int .i64 x.f2) ∧ W'.cell? ⟨w.heap.size, 3, none⟩ = some (.int .i64 x.f3) ∧ W'.cell? ⟨w.heap.size, 4, none⟩ = some (.slice A x.f4.length c) ∧ W'.cell? ⟨yb, 0, none⟩ = some (.string y.f0) ∧ W'.cell? ⟨yb, 1, none⟩ = some (.int .i64 y.f1) ∧ W'.cell? ⟨yb, 2, none⟩ = some (.int .i64 y.f2) ∧ W'.cell? ⟨yb, 3, none⟩ = some (.int .i64 y.f3) ∧ W'.cell? ⟨yb, 4, none⟩ = some (.slice B y.f4.length d) ∧ W'.cell? ⟨gc, 0, none⟩ = some (.string x.f0) ∧ W'.cell? ⟨gc, 1, none⟩ = some (.int .i64 x.f1) ∧ W'.cell? ⟨gc, 2, none⟩ = some (.int .i64 x.f2) ∧ W'.cell? ⟨gc, 3, none⟩ = some (.int .i64 x.f3) ∧ W'.cell? ⟨gc, 4, none⟩ = some (.slice C2 x.f4.length c2)) := ⟨fun W' hb => ⟨hb, (Below.cell hb (World.block_lt_of_cell? _ _ p0)).trans p0, (Below.cell hb (World.block_lt_of_cell? _ _ p1)).trans p1, (Below.cell hb (World.block_lt_of_cell? _ _ p2)).trans p2, (Below.cell hb (World.block_lt_of_cell? _ _ p3)).trans p3, (Below.cell hb (World.block_lt_of_cell? _ _ p4)).trans p4, (Below.cell hb (World.block_lt_of_cell? _ _ q0)).trans q0, (Below.cell hb (World.block_lt_of_cell? _ _ q1)).trans q1, (Below.cell hb (World.block_lt_of_cell? _ _ q2)).trans q2, (Below.cell hb (World.block_lt_of_cell? _ _ q3)).trans q3, (Below.cell hb (World.block_lt_of_cell? _ _ q4)).trans q4, (Below.cell hb (World.block_lt_of_cell? _ _ c0)).trans c0, (Below.cell hb (World.block_lt_of_cell? _ _ c1)).trans c1, (Below.cell hb (World.block_lt_of_cell? _ _ c2_)).trans c2_, (Below.cell hb (World.block_lt_of_cell? _ _ c3)).trans c3, (Below.cell hb (World.block_lt_of_cell? _ _ c4)).trans c4⟩⟩
  have hcf := Aside0.mk (fun (W : World) (hb : Below W3.heap.size W3 W) => (ref_same (Kd.C_below hC3.out hb) c5 (Kd.C_below hx.out.1 hb) lx hz.out).mono (fun e w' h => (⟨by rw [h.1, funE_refl], below_step hb h.2⟩ : e = .returned (.bool true) ∧ Below W3.heap.size W3 w')))
  have hcg := Aside0.mk (fun (W : World) (hb : Below W3.heap.size W3 W) => (same_calls (Kd.C_below hC3.out hb) c5 (Kd.C_below hx.out.1 hb) lx).mono (fun e w' h => (⟨by rw [h.1, funE_refl], below_step hb h.2⟩ : e = .returned (.bool true) ∧ Below W3.heap.size W3 w')))
  obtain ⟨r, hr⟩ : ∃ r, funE x y = r := ⟨_, rfl⟩
  have hfg := Aside0.mk (fun (W : World) (hb : Below W3.heap.size W3 W) => (same_calls (Kd.C_below hx.out.1 hb) lx (Kd.C_below hy.out hb) ly).mono (fun e w' h => (⟨by rw [h.1, hr], below_step hb h.2⟩ : e = .returned (.bool r) ∧ Below W3.heap.size W3 w')))
  have hfh := Aside0.mk (fun (W : World) (hb : Below W3.heap.size W3 W) => (ref_same (Kd.C_below hx.out.1 hb) lx (Kd.C_below hy.out hb) ly hz.out).mono (fun e w' h => (⟨by rw [h.1, hr], below_step hb h.2⟩ : e = .returned (.bool r) ∧ Below W3.heap.size W3 w')))
  have hspo := Aside0.mk (fun (W : World) (hb : Below W3.heap.size W3 W) => (spoilt_calls (hSR.out W hb) hz.out (by have := hw2.out.2; have := L3.out.size; have := hb.size; omega)).mono (fun e w' h => (⟨h.1, (Kept.of_below hb _).then_ h.2.1 (fun k hk => .inl hk), h.2.2.1.trans hb.os, h.2.2.2.1.trans hb.tape, h.2.2.2.2.trans hb.output⟩ : e = .returned (.tuple #[]) ∧ Kept W3 w' (fun k => W1.heap.size ≤ k ∧ k < gc) ∧ w'.os = W3.os ∧ w'.tape = W3.tape ∧ w'.output = W3.output)))
  have hdf := Aside0.mk (fun (W : World) (hk : Kept W3 W (fun k => W1.heap.size ≤ k ∧ k < gc)) => (ref_same (hD3.out W hk) d5 (hx.out.2 W hk) lx hz.out).mono (fun e w' h => (⟨by rw [h.1, funE_refl], h.2⟩ : e = .returned (.bool true) ∧ Below W.heap.size W w')))
  have hB3 := Below.refl W3.heap.size W3
  clear hx hy hC3 hD3 d5 c5 hSR hR2 hR3 hCc X0 Y0 C0 D0 LW L2 L3 L13 hw2 hw3 hsz1 hne LW3 hr
  cases r
  · skip
    refine start_ (n := 19) (S := fun w' => Below W3.heap.size W3 w' ∧ w'.cell? ⟨w.heap.size, 0, none⟩ = some (.string x.f0) ∧ w'.cell? ⟨w.heap.size, 1, none⟩ = some (.int .i64 x.f1) ∧ w'.cell? ⟨w.heap.size, 2, none⟩ = some (.int .i64 x.f2) ∧ w'.cell? ⟨w.heap.size, 3, none⟩ = some (.int .i64 x.f3) ∧ w'.cell? ⟨w.heap.size, 4, none⟩ = some (.slice A x.f4.length c) ∧ w'.cell? ⟨yb, 0, none⟩ = some (.string y.f0) ∧ w'.cell? ⟨yb, 1, none⟩ = some (.int .i64 y.f1) ∧ w'.cell? ⟨yb, 2, none⟩ = some (.int .i64 y.f2) ∧ w'.cell? ⟨yb, 3, none⟩ = some (.int .i64 y.f3) ∧ w'.cell? ⟨yb, 4, none⟩ = some (.slice B y.f4.length d) ∧ w'.cell? ⟨gc, 0, none⟩ = some (.string x.f0) ∧ w'.cell? ⟨gc, 1, none⟩ = some (.int .i64 x.f1) ∧ w'.cell? ⟨gc, 2, none⟩ = some (.int .i64 x.f2) ∧ w'.cell? ⟨gc, 3, none⟩ = some (.int .i64 x.f3) ∧ w'.cell? ⟨gc, 4, none⟩ = some (.slice C2 x.f4.length c2)) (ds := []) #[false, false, false, false, false, false, false, false, false, false, false, false, false, false, false, false, false, false, false] (by kernel_rfl) rfl rfl (hkp.out _ (below_drew hB3)) (fun hHeld => ?_)
    clear p0 p1 p2 p3 p4 q0 q1 q2 q3 q4 c0 c1 c2_ c3 c4
    generalize W3.drew = W4 at *
    refine take_ (i := 0) (N := some 11) (v := ?_) (a' := ?_) #[true, false, false, false, false, false, false, false, false, false, false, false, false, false, false, false, false, false, false] rfl rfl (by kernel_rfl) (fun _ _ _ h => h) (Or.inl ⟨by rfl, ?_⟩) hHeld ?_ ?_
    rotate_left
    · intro w' s0
      obtain ⟨sB_, s0_, s1_, s2_, s3_, s4_, t0_, t1_, t2_, t3_, t4_, u0_, u1_, u2_, u3_, u4_⟩ := s0
      go_simp
      try with_reducible rfl
    rotate_left
    · simp only [Act.put, List.setIfInBounds_toArray, List.set_cons_zero, List.set_cons_succ]
      rfl
    refine take_ (i := 1) (N := some 12) (v := ?_) (a' := ?_) #[true, true, false, false, false, false, false, false, false, false, false, false, false, false, false, false, false, false, false] rfl rfl (by kernel_rfl) (fun _ _ _ h => h) (Or.inl ⟨by rfl, ?_⟩) hHeld ?_ ?_
    rotate_left
    · intro w' s0
      obtain ⟨sB_, s0_, s1_, s2_, s3_, s4_, t0_, t1_, t2_, t3_, t4_, u0_, u1_, u2_, u3_, u4_⟩ := s0
      go_simp
      try with_reducible rfl
    rotate_left
    · simp only [Act.put, List.setIfInBounds_toArray, List.set_cons_zero, List.set_cons_succ]
      rfl
    refine one_ (i := 2) (N := some 13) #[true, true, true, false, false, false, false, false, false, false, false, false, false, false, false, false, false, false, false] rfl rfl (by kernel_rfl) (by decide) (fun K hK => ?_)
    refine goes_ Try.func22 (by kernel_rfl) rfl #[.agg #[.string x.f0, .int .i64 x.f1, .int .i64 x.f2, .int .i64 x.f3, .slice C2 x.f4.length c2], .agg #[.string x.f0, .int .i64 x.f1, .int .i64 x.f2, .int .i64 x.f3, .slice A x.f4.length c]] (by rfl) rfl rfl (by (try simp only [List.map_toArray, List.map_cons, List.map_nil]); first | done | rfl) ?_
    with_reducible refine (hcf.out _ hHeld.1).mono ?_
    rintro e w' ⟨rfl, hb⟩
    refine ⟨_, rfl, ?_⟩
    refine hK.out _ _ (hkp.out _ hb) (fun hHeld => ?_)
    clear hK K hb
    refine norm_ (a' := ?_) ?_ ?_
    rotate_left
    · simp only [Act.put, List.setIfInBounds_toArray, List.set_cons_zero, List.set_cons_succ]
      rfl
    refine pure_ (i := 3) (N := some 14) (v := ?_) (a' := ?_) #[true, true, true, true, false, false, false, false, false, false, false, false, false, false, false, false, false, false, false] rfl rfl (by kernel_rfl) (fun _ _ _ h => h) (Or.inl ⟨by rfl, ?_⟩) ?_ ?_
    rotate_left
    · intro w'
      go_simp
      try with_reducible rfl
    rotate_left
    · simp only [Act.put, List.setIfInBounds_toArray, List.set_cons_zero, List.set_cons_succ]
      rfl
    refine pure_ (i := 4) (N := some 15) (v := ?_) (a' := ?_) #[true, true, true, true, true, false, false, false, false, false, false, false, false, false, false, false, false, false, false] rfl rfl (by kernel_rfl) (fun _ _ _ h => h) (Or.inl ⟨by rfl, ?_⟩) ?_ ?_
    rotate_left
    · intro w'
      go_simp
      try with_reducible rfl
    rotate_left
    · simp only [Act.put, List.setIfInBounds_toArray, List.set_cons_zero, List.set_cons_succ]
      rfl
    refine take_ (i := 5) (N := some 16) (v := ?_) (a' := ?_) #[true, true, true, true, true, true, false, false, false, false, false, false, false, false, false, false, false, false, false] rfl rfl (by kernel_rfl) (fun _ _ _ h => h) (Or.inl ⟨by rfl, ?_⟩) hHeld ?_ ?_
    rotate_left
    · intro w' s0
      obtain ⟨sB_, s0_, s1_, s2_, s3_, s4_, t0_, t1_, t2_, t3_, t4_, u0_, u1_, u2_, u3_, u4_⟩ := s0
      go_simp
      try with_reducible rfl
    rotate_left
    · simp only [Act.put, List.setIfInBounds_toArray, List.set_cons_zero, List.set_cons_succ]
      rfl
    refine take_ (i := 6) (N := some 17) (v := ?_) (a' := ?_) #[true, true, true, true, true, true, true, false, false, false, false, false, false, false, false, false, false, false, false] rfl rfl (by kernel_rfl) (fun _ _ _ h => h) (Or.inl ⟨by rfl, ?_⟩) hHeld ?_ ?_
    rotate_left
    · intro w' s0
      obtain ⟨sB_, s0_, s1_, s2_, s3_, s4_, t0_, t1_, t2_, t3_, t4_, u0_, u1_, u2_, u3_, u4_⟩ := s0
      go_simp
      try with_reducible rfl
    rotate_left
    · simp only [Act.put, List.setIfInBounds_toArray, List.set_cons_zero, List.set_cons_succ]
      rfl
    refine one_ (i := 7) (N := some 18) #[true, true, true, true, true, true, true, true, false, false, false, false, false, false, false, false, false, false, false] rfl rfl (by kernel_rfl) (by decide) (fun K hK => ?_)
    refine goes_ Try.func23 (by kernel_rfl) rfl #[.agg #[.string x.f0, .int .i64 x.f1, .int .i64 x.f2, .int .i64 x.f3, .slice C2 x.f4.length c2], .agg #[.string x.f0, .int .i64 x.f1, .int .i64 x.f2, .int .i64 x.f3, .slice A x.f4.length c]] (by rfl) rfl rfl (by (try simp only [List.map_toArray, List.map_cons, List.map_nil]); first | done | rfl) ?_
    with_reducible refine (hcg.out _ hHeld.1).mono ?_
    rintro e w' ⟨rfl, hb⟩
    refine ⟨_, rfl, ?_⟩
    refine hK.out _ _ (hkp.out _ hb) (fun hHeld => ?_)
    clear hK K hb
    refine norm_ (a' := ?_) ?_ ?_
    rotate_left
    · simp only [Act.put, List.setIfInBounds_toArray, List.set_cons_zero, List.set_cons_succ]
      rfl
    refine pure_ (i := 8) (N := some 19) (v := ?_) (a' := ?_) #[true, true, true, true, true, true, true, true, true, false, false, false, false, false, false, false, false, false, false] rfl rfl (by kernel_rfl) (fun _ _ _ h => h) (Or.inl ⟨by rfl, ?_⟩) ?_ ?_
    rotate_left
    · intro w'
      go_simp
      try with_reducible rfl
    rotate_left
    · simp only [Act.put, List.setIfInBounds_toArray, List.set_cons_zero, List.set_cons_succ]
      rfl
    refine pure_ (i := 9) (N := some 20) (v := ?_) (a' := ?_) #[true, true, true, true, true, true, true, true, true, true, false, false, false, false, false, false, false, false, false] rfl rfl (by kernel_rfl) (fun _ _ _ h => h) (Or.inl ⟨by rfl, ?_⟩) ?_ ?_
    rotate_left
    · intro w'
      go_simp
      try with_reducible rfl
    rotate_left
    · simp only [Act.put, List.setIfInBounds_toArray, List.set_cons_zero, List.set_cons_succ]
      rfl
    refine pure_ (i := 10) (N := some 21) (v := ?_) (a' := ?_) #[true, true, true, true, true, true, true, true, true, true, true, false, false, false, false, false, false, false, false] rfl rfl (by kernel_rfl) (fun _ _ _ h => h) (Or.inl ⟨by rfl, ?_⟩) ?_ ?_
    rotate_left
    · intro w'
      go_simp
      try with_reducible rfl
    rotate_left
    · simp only [Act.put, List.setIfInBounds_toArray, List.set_cons_zero, List.set_cons_succ]
      rfl
    refine take_ (i := 11) (N := some 22) (v := ?_) (a' := ?_) #[true, true, true, true, true, true, true, true, true, true, true, true, false, false, false, false, false, false, false] rfl rfl (by kernel_rfl) (fun _ _ _ h => h) (Or.inl ⟨by rfl, ?_⟩) hHeld ?_ ?_
    rotate_left
    · intro w' s0
      obtain ⟨sB_, s0_, s1_, s2_, s3_, s4_, t0_, t1_, t2_, t3_, t4_, u0_, u1_, u2_, u3_, u4_⟩ := s0
      go_simp
      try with_reducible rfl
    rotate_left
    · simp only [Act.put, List.setIfInBounds_toArray, List.set_cons_zero, List.set_cons_succ]
      rfl
    refine take_ (i := 12) (N := some 23) (v := ?_) (a' := ?_) #[true, true, true, true, true, true, true, true, true, true, true, true, true, false, false, false, false, false, false] rfl rfl (by kernel_rfl) (fun _ _ _ h => h) (Or.inl ⟨by rfl, ?_⟩) hHeld ?_ ?_
    rotate_left
    · intro w' s0
      obtain ⟨sB_, s0_, s1_, s2_, s3_, s4_, t0_, t1_, t2_, t3_, t4_, u0_, u1_, u2_, u3_, u4_⟩ := s0
      go_simp
      try with_reducible rfl
    rotate_left
    · simp only [Act.put, List.setIfInBounds_toArray, List.set_cons_zero, List.set_cons_succ]
      rfl
    refine take_ (i := 14) (N := some 25) (v := ?_) (a' := ?_) #[true, true, true, true, true, true, true, true, true, true, true, true, true, false, true, false, false, false, false] rfl rfl (by kernel_rfl) (fun _ _ _ h => h) (Or.inl ⟨by rfl, ?_⟩) hHeld ?_ ?_
    rotate_left
    · intro w' s0
      obtain ⟨sB_, s0_, s1_, s2_, s3_, s4_, t0_, t1_, t2_, t3_, t4_, u0_, u1_, u2_, u3_, u4_⟩ := s0
      go_simp
      try with_reducible rfl
    rotate_left
    · simp only [Act.put, List.setIfInBounds_toArray, List.set_cons_zero, List.set_cons_succ]
      rfl
    refine take_ (i := 15) (N := some 26) (v := ?_) (a' := ?_) #[true, true, true, true, true, true, true, true, true, true, true, true, true, false, true, true, false, false, false] rfl rfl (by kernel_rfl) (fun _ _ _ h => h) (Or.inl ⟨by rfl, ?_⟩) hHeld ?_ ?_
    rotate_left
    · intro w' s0
      obtain ⟨sB_, s0_, s1_, s2_, s3_, s4_, t0_, t1_, t2_, t3_, t4_, u0_, u1_, u2_, u3_, u4_⟩ := s0
      go_simp
      try with_reducible rfl
    rotate_left
    · simp only [Act.put, List.setIfInBounds_toArray, List.set_cons_zero, List.set_cons_succ]
      rfl
    refine one_ (i := 13) (N := some 24) #[true, true, true, true, true, true, true, true, true, true, true, true, true, true, true, true, false, false, false] rfl rfl (by kernel_rfl) (by decide) (fun K hK => ?_)
    refine goes_ Try.func23 (by kernel_rfl) rfl #[.agg #[.string x.f0, .int .i64 x.f1, .int .i64 x.f2, .int .i64 x.f3, .slice A x.f4.length c], .agg #[.string y.f0, .int .i64 y.f1, .int .i64 y.f2, .int .i64 y.f3, .slice B y.f4.length d]] (by rfl) rfl rfl (by (try simp only [List.map_toArray, List.map_cons, List.map_nil]); first | done | rfl) ?_
    with_reducible refine (hfg.out _ hHeld.1).mono ?_
    rintro e w' ⟨rfl, hb⟩
    refine ⟨_, rfl, ?_⟩
    refine hK.out _ _ (hkp.out _ hb) (fun hHeld => ?_)
    clear hK K hb
    refine norm_ (a' := ?_) ?_ ?_
    rotate_left
    · simp only [Act.put, List.setIfInBounds_toArray, List.set_cons_zero, List.set_cons_succ]
      rfl
    refine one_ (i := 16) (N := some 27) #[true, true, true, true, true, true, true, true, true, true, true, true, true, true, true, true, true, false, false] rfl rfl (by kernel_rfl) (by decide) (fun K hK => ?_)
    refine goes_ Try.func22 (by kernel_rfl) rfl #[.agg #[.string x.f0, .int .i64 x.f1, .int .i64 x.f2, .int .i64 x.f3, .slice A x.f4.length c], .agg #[.string y.f0, .int .i64 y.f1, .int .i64 y.f2, .int .i64 y.f3, .slice B y.f4.length d]] (by rfl) rfl rfl (by (try simp only [List.map_toArray, List.map_cons, List.map_nil]); first | done | rfl) ?_
    with_reducible refine (hfh.out _ hHeld.1).mono ?_
    rintro e w' ⟨rfl, hb⟩
    refine ⟨_, rfl, ?_⟩
    refine hK.out _ _ (hkp.out _ hb) (fun hHeld => ?_)
    clear hK K hb
    refine norm_ (a' := ?_) ?_ ?_
    rotate_left
    · simp only [Act.put, List.setIfInBounds_toArray, List.set_cons_zero, List.set_cons_succ]
      rfl
    refine pure_ (i := 17) (N := some 28) (v := ?_) (a' := ?_) #[true, true, true, true, true, true, true, true, true, true, true, true, true, true, true, true, true, true, false] rfl rfl (by kernel_rfl) (fun _ _ _ h => h) (Or.inl ⟨by rfl, ?_⟩) ?_ ?_
    rotate_left
    · intro w'
      go_simp
      try with_reducible rfl
    rotate_left
    · simp only [Act.put, List.setIfInBounds_toArray, List.set_cons_zero, List.set_cons_succ]
      rfl
    refine pure_ (i := 18) (N := some 29) (v := ?_) (a' := ?_) #[true, true, true, true, true, true, true, true, true, true, true, true, true, true, true, true, true, true, true] rfl rfl (by kernel_rfl) (fun _ _ _ h => h) (Or.inl ⟨by rfl, ?_⟩) ?_ ?_
    rotate_left
    · intro w'
      go_simp
      try with_reducible rfl
    rotate_left
    · simp only [Act.put, List.setIfInBounds_toArray, List.set_cons_zero, List.set_cons_succ]
      rfl
    refine done_ (by kernel_rfl) ?_
    clear hcf hcg hfg hfh hkp
    rename_i WA WB WC
    obtain ⟨hB4, s0_, s1_, s2_, s3_, s4_, t0_, t1_, t2_, t3_, t4_, u0_, u1_, u2_, u3_, u4_⟩ := hHeld
    clear s0_ s1_ s2_ s3_ s4_ t0_ t1_ t2_ t3_ t4_
    have hsp := Aside0.mk (hspo.out _ hB4)
    clear hB4 hspo
    go_wp2_with (first | (go_at_call 24; (with_reducible refine hsp.out.mono ?_); rintro e w5 ⟨rfl, hk5, io5⟩; clear hsp; have hdf5 := Aside0.mk (hdf.out w5 hk5); have hb5 := Aside0.mk (hfin.out w5 hk5 io5); obtain ⟨z0, z1, z2, z3, z4, y0, y1, y2, y3, y4⟩ := hk6.out w5 hk5; clear hk5 io5 hdf hfin hk6) | (go_at_call 22; (with_reducible refine hdf5.out.mono ?_); rintro e w6 ⟨rfl, hb6⟩; clear hdf5; replace hb6 := Aside0.mk hb6; have haw := Aside0.mk (IrA.awake w6)) | (go_at_call 11; (with_reducible refine haw.out.mono ?_); rintro e w7 ⟨rfl, hb7⟩; replace hb7 := Aside0.mk hb7))
    go_ret
    exact ⟨rfl, below_step hb5.out (below_step hb6.out hb7.out)⟩
  · skip
    refine start_ (n := 19) (S := fun w' => Below W3.heap.size W3 w' ∧ w'.cell? ⟨w.heap.size, 0, none⟩ = some (.string x.f0) ∧ w'.cell? ⟨w.heap.size, 1, none⟩ = some (.int .i64 x.f1) ∧ w'.cell? ⟨w.heap.size, 2, none⟩ = some (.int .i64 x.f2) ∧ w'.cell? ⟨w.heap.size, 3, none⟩ = some (.int .i64 x.f3) ∧ w'.cell? ⟨w.heap.size, 4, none⟩ = some (.slice A x.f4.length c) ∧ w'.cell? ⟨yb, 0, none⟩ = some (.string y.f0) ∧ w'.cell? ⟨yb, 1, none⟩ = some (.int .i64 y.f1) ∧ w'.cell? ⟨yb, 2, none⟩ = some (.int .i64 y.f2) ∧ w'.cell? ⟨yb, 3, none⟩ = some (.int .i64 y.f3) ∧ w'.cell? ⟨yb, 4, none⟩ = some (.slice B y.f4.length d) ∧ w'.cell? ⟨gc, 0, none⟩ = some (.string x.f0) ∧ w'.cell? ⟨gc, 1, none⟩ = some (.int .i64 x.f1) ∧ w'.cell? ⟨gc, 2, none⟩ = some (.int .i64 x.f2) ∧ w'.cell? ⟨gc, 3, none⟩ = some (.int .i64 x.f3) ∧ w'.cell? ⟨gc, 4, none⟩ = some (.slice C2 x.f4.length c2)) (ds := []) #[false, false, false, false, false, false, false, false, false, false, false, false, false, false, false, false, false, false, false] (by kernel_rfl) rfl rfl (hkp.out _ (below_drew hB3)) (fun hHeld => ?_)
    clear p0 p1 p2 p3 p4 q0 q1 q2 q3 q4 c0 c1 c2_ c3 c4
    generalize W3.drew = W4 at *
    refine take_ (i := 0) (N := some 11) (v := ?_) (a' := ?_) #[true, false, false, false, false, false, false, false, false, false, false, false, false, false, false, false, false, false, false] rfl rfl (by kernel_rfl) (fun _ _ _ h => h) (Or.inl ⟨by rfl, ?_⟩) hHeld ?_ ?_
    rotate_left
    · intro w' s0
      obtain ⟨sB_, s0_, s1_, s2_, s3_, s4_, t0_, t1_, t2_, t3_, t4_, u0_, u1_, u2_, u3_, u4_⟩ := s0
      go_simp
      try with_reducible rfl
    rotate_left
    · simp only [Act.put, List.setIfInBounds_toArray, List.set_cons_zero, List.set_cons_succ]
      rfl
    refine take_ (i := 1) (N := some 12) (v := ?_) (a' := ?_) #[true, true, false, false, false, false, false, false, false, false, false, false, false, false, false, false, false, false, false] rfl rfl (by kernel_rfl) (fun _ _ _ h => h) (Or.inl ⟨by rfl, ?_⟩) hHeld ?_ ?_
    rotate_left
    · intro w' s0
      obtain ⟨sB_, s0_, s1_, s2_, s3_, s4_, t0_, t1_, t2_, t3_, t4_, u0_, u1_, u2_, u3_, u4_⟩ := s0
      go_simp
      try with_reducible rfl
    rotate_left
    · simp only [Act.put, List.setIfInBounds_toArray, List.set_cons_zero, List.set_cons_succ]
      rfl
    refine one_ (i := 2) (N := some 13) #[true, true, true, false, false, false, false, false, false, false, false, false, false, false, false, false, false, false, false] rfl rfl (by kernel_rfl) (by decide) (fun K hK => ?_)
    refine goes_ Try.func22 (by kernel_rfl) rfl #[.agg #[.string x.f0, .int .i64 x.f1, .int .i64 x.f2, .int .i64 x.f3, .slice C2 x.f4.length c2], .agg #[.string x.f0, .int .i64 x.f1, .int .i64 x.f2, .int .i64 x.f3, .slice A x.f4.length c]] (by rfl) rfl rfl (by (try simp only [List.map_toArray, List.map_cons, List.map_nil]); first | done | rfl) ?_
    with_reducible refine (hcf.out _ hHeld.1).mono ?_
    rintro e w' ⟨rfl, hb⟩
    refine ⟨_, rfl, ?_⟩
    refine hK.out _ _ (hkp.out _ hb) (fun hHeld => ?_)
    clear hK K hb
    refine norm_ (a' := ?_) ?_ ?_
    rotate_left
    · simp only [Act.put, List.setIfInBounds_toArray, List.set_cons_zero, List.set_cons_succ]
      rfl
    refine pure_ (i := 3) (N := some 14) (v := ?_) (a' := ?_) #[true, true, true, true, false, false, false, false, false, false, false, false, false, false, false, false, false, false, false] rfl rfl (by kernel_rfl) (fun _ _ _ h => h) (Or.inl ⟨by rfl, ?_⟩) ?_ ?_
    rotate_left
    · intro w'
      go_simp
      try with_reducible rfl
    rotate_left
    · simp only [Act.put, List.setIfInBounds_toArray, List.set_cons_zero, List.set_cons_succ]
      rfl
    refine pure_ (i := 4) (N := some 15) (v := ?_) (a' := ?_) #[true, true, true, true, true, false, false, false, false, false, false, false, false, false, false, false, false, false, false] rfl rfl (by kernel_rfl) (fun _ _ _ h => h) (Or.inl ⟨by rfl, ?_⟩) ?_ ?_
    rotate_left
    · intro w'
      go_simp
      try with_reducible rfl
    rotate_left
    · simp only [Act.put, List.setIfInBounds_toArray, List.set_cons_zero, List.set_cons_succ]
      rfl
    refine take_ (i := 5) (N := some 16) (v := ?_) (a' := ?_) #[true, true, true, true, true, true, false, false, false, false, false, false, false, false, false, false, false, false, false] rfl rfl (by kernel_rfl) (fun _ _ _ h => h) (Or.inl ⟨by rfl, ?_⟩) hHeld ?_ ?_
    rotate_left
    · intro w' s0
      obtain ⟨sB_, s0_, s1_, s2_, s3_, s4_, t0_, t1_, t2_, t3_, t4_, u0_, u1_, u2_, u3_, u4_⟩ := s0
      go_simp
      try with_reducible rfl
    rotate_left
    · simp only [Act.put, List.setIfInBounds_toArray, List.set_cons_zero, List.set_cons_succ]
      rfl
    refine take_ (i := 6) (N := some 17) (v := ?_) (a' := ?_) #[true, true, true, true, true, true, true, false, false, false, false, false, false, false, false, false, false, false, false] rfl rfl (by kernel_rfl) (fun _ _ _ h => h) (Or.inl ⟨by rfl, ?_⟩) hHeld ?_ ?_
    rotate_left
    · intro w' s0
      obtain ⟨sB_, s0_, s1_, s2_, s3_, s4_, t0_, t1_, t2_, t3_, t4_, u0_, u1_, u2_, u3_, u4_⟩ := s0
      go_simp
      try with_reducible rfl
    rotate_left
    · simp only [Act.put, List.setIfInBounds_toArray, List.set_cons_zero, List.set_cons_succ]
      rfl
    refine one_ (i := 7) (N := some 18) #[true, true, true, true, true, true, true, true, false, false, false, false, false, false, false, false, false, false, false] rfl rfl (by kernel_rfl) (by decide) (fun K hK => ?_)
    refine goes_ Try.func23 (by kernel_rfl) rfl #[.agg #[.string x.f0, .int .i64 x.f1, .int .i64 x.f2, .int .i64 x.f3, .slice C2 x.f4.length c2], .agg #[.string x.f0, .int .i64 x.f1, .int .i64 x.f2, .int .i64 x.f3, .slice A x.f4.length c]] (by rfl) rfl rfl (by (try simp only [List.map_toArray, List.map_cons, List.map_nil]); first | done | rfl) ?_
    with_reducible refine (hcg.out _ hHeld.1).mono ?_
    rintro e w' ⟨rfl, hb⟩
    refine ⟨_, rfl, ?_⟩
    refine hK.out _ _ (hkp.out _ hb) (fun hHeld => ?_)
    clear hK K hb
    refine norm_ (a' := ?_) ?_ ?_
    rotate_left
    · simp only [Act.put, List.setIfInBounds_toArray, List.set_cons_zero, List.set_cons_succ]
      rfl
    refine pure_ (i := 8) (N := some 19) (v := ?_) (a' := ?_) #[true, true, true, true, true, true, true, true, true, false, false, false, false, false, false, false, false, false, false] rfl rfl (by kernel_rfl) (fun _ _ _ h => h) (Or.inl ⟨by rfl, ?_⟩) ?_ ?_
    rotate_left
    · intro w'
      go_simp
      try with_reducible rfl
    rotate_left
    · simp only [Act.put, List.setIfInBounds_toArray, List.set_cons_zero, List.set_cons_succ]
      rfl
    refine pure_ (i := 9) (N := some 20) (v := ?_) (a' := ?_) #[true, true, true, true, true, true, true, true, true, true, false, false, false, false, false, false, false, false, false] rfl rfl (by kernel_rfl) (fun _ _ _ h => h) (Or.inl ⟨by rfl, ?_⟩) ?_ ?_
    rotate_left
    · intro w'
      go_simp
      try with_reducible rfl
    rotate_left
    · simp only [Act.put, List.setIfInBounds_toArray, List.set_cons_zero, List.set_cons_succ]
      rfl
    refine pure_ (i := 10) (N := some 21) (v := ?_) (a' := ?_) #[true, true, true, true, true, true, true, true, true, true, true, false, false, false, false, false, false, false, false] rfl rfl (by kernel_rfl) (fun _ _ _ h => h) (Or.inl ⟨by rfl, ?_⟩) ?_ ?_
    rotate_left
    · intro w'
      go_simp
      try with_reducible rfl
    rotate_left
    · simp only [Act.put, List.setIfInBounds_toArray, List.set_cons_zero, List.set_cons_succ]
      rfl
    refine take_ (i := 11) (N := some 22) (v := ?_) (a' := ?_) #[true, true, true, true, true, true, true, true, true, true, true, true, false, false, false, false, false, false, false] rfl rfl (by kernel_rfl) (fun _ _ _ h => h) (Or.inl ⟨by rfl, ?_⟩) hHeld ?_ ?_
    rotate_left
    · intro w' s0
      obtain ⟨sB_, s0_, s1_, s2_, s3_, s4_, t0_, t1_, t2_, t3_, t4_, u0_, u1_, u2_, u3_, u4_⟩ := s0
      go_simp
      try with_reducible rfl
    rotate_left
    · simp only [Act.put, List.setIfInBounds_toArray, List.set_cons_zero, List.set_cons_succ]
      rfl
    refine take_ (i := 12) (N := some 23) (v := ?_) (a' := ?_) #[true, true, true, true, true, true, true, true, true, true, true, true, true, false, false, false, false, false, false] rfl rfl (by kernel_rfl) (fun _ _ _ h => h) (Or.inl ⟨by rfl, ?_⟩) hHeld ?_ ?_
    rotate_left
    · intro w' s0
      obtain ⟨sB_, s0_, s1_, s2_, s3_, s4_, t0_, t1_, t2_, t3_, t4_, u0_, u1_, u2_, u3_, u4_⟩ := s0
      go_simp
      try with_reducible rfl
    rotate_left
    · simp only [Act.put, List.setIfInBounds_toArray, List.set_cons_zero, List.set_cons_succ]
      rfl
    refine take_ (i := 14) (N := some 25) (v := ?_) (a' := ?_) #[true, true, true, true, true, true, true, true, true, true, true, true, true, false, true, false, false, false, false] rfl rfl (by kernel_rfl) (fun _ _ _ h => h) (Or.inl ⟨by rfl, ?_⟩) hHeld ?_ ?_
    rotate_left
    · intro w' s0
      obtain ⟨sB_, s0_, s1_, s2_, s3_, s4_, t0_, t1_, t2_, t3_, t4_, u0_, u1_, u2_, u3_, u4_⟩ := s0
      go_simp
      try with_reducible rfl
    rotate_left
    · simp only [Act.put, List.setIfInBounds_toArray, List.set_cons_zero, List.set_cons_succ]
      rfl
    refine take_ (i := 15) (N := some 26) (v := ?_) (a' := ?_) #[true, true, true, true, true, true, true, true, true, true, true, true, true, false, true, true, false, false, false] rfl rfl (by kernel_rfl) (fun _ _ _ h => h) (Or.inl ⟨by rfl, ?_⟩) hHeld ?_ ?_
    rotate_left
    · intro w' s0
      obtain ⟨sB_, s0_, s1_, s2_, s3_, s4_, t0_, t1_, t2_, t3_, t4_, u0_, u1_, u2_, u3_, u4_⟩ := s0
      go_simp
      try with_reducible rfl
    rotate_left
    · simp only [Act.put, List.setIfInBounds_toArray, List.set_cons_zero, List.set_cons_succ]
      rfl
    refine one_ (i := 13) (N := some 24) #[true, true, true, true, true, true, true, true, true, true, true, true, true, true, true, true, false, false, false] rfl rfl (by kernel_rfl) (by decide) (fun K hK => ?_)
    refine goes_ Try.func23 (by kernel_rfl) rfl #[.agg #[.string x.f0, .int .i64 x.f1, .int .i64 x.f2, .int .i64 x.f3, .slice A x.f4.length c], .agg #[.string y.f0, .int .i64 y.f1, .int .i64 y.f2, .int .i64 y.f3, .slice B y.f4.length d]] (by rfl) rfl rfl (by (try simp only [List.map_toArray, List.map_cons, List.map_nil]); first | done | rfl) ?_
    with_reducible refine (hfg.out _ hHeld.1).mono ?_
    rintro e w' ⟨rfl, hb⟩
    refine ⟨_, rfl, ?_⟩
    refine hK.out _ _ (hkp.out _ hb) (fun hHeld => ?_)
    clear hK K hb
    refine norm_ (a' := ?_) ?_ ?_
    rotate_left
    · simp only [Act.put, List.setIfInBounds_toArray, List.set_cons_zero, List.set_cons_succ]
      rfl
    refine one_ (i := 16) (N := some 27) #[true, true, true, true, true, true, true, true, true, true, true, true, true, true, true, true, true, false, false] rfl rfl (by kernel_rfl) (by decide) (fun K hK => ?_)
    refine goes_ Try.func22 (by kernel_rfl) rfl #[.agg #[.string x.f0, .int .i64 x.f1, .int .i64 x.f2, .int .i64 x.f3, .slice A x.f4.length c], .agg #[.string y.f0, .int .i64 y.f1, .int .i64 y.f2, .int .i64 y.f3, .slice B y.f4.length d]] (by rfl) rfl rfl (by (try simp only [List.map_toArray, List.map_cons, List.map_nil]); first | done | rfl) ?_
    with_reducible refine (hfh.out _ hHeld.1).mono ?_
    rintro e w' ⟨rfl, hb⟩
    refine ⟨_, rfl, ?_⟩
    refine hK.out _ _ (hkp.out _ hb) (fun hHeld => ?_)
    clear hK K hb
    refine norm_ (a' := ?_) ?_ ?_
    rotate_left
    · simp only [Act.put, List.setIfInBounds_toArray, List.set_cons_zero, List.set_cons_succ]
      rfl
    refine pure_ (i := 17) (N := some 28) (v := ?_) (a' := ?_) #[true, true, true, true, true, true, true, true, true, true, true, true, true, true, true, true, true, true, false] rfl rfl (by kernel_rfl) (fun _ _ _ h => h) (Or.inl ⟨by rfl, ?_⟩) ?_ ?_
    rotate_left
    · intro w'
      go_simp
      try with_reducible rfl
    rotate_left
    · simp only [Act.put, List.setIfInBounds_toArray, List.set_cons_zero, List.set_cons_succ]
      rfl
    refine pure_ (i := 18) (N := some 29) (v := ?_) (a' := ?_) #[true, true, true, true, true, true, true, true, true, true, true, true, true, true, true, true, true, true, true] rfl rfl (by kernel_rfl) (fun _ _ _ h => h) (Or.inl ⟨by rfl, ?_⟩) ?_ ?_
    rotate_left
    · intro w'
      go_simp
      try with_reducible rfl
    rotate_left
    · simp only [Act.put, List.setIfInBounds_toArray, List.set_cons_zero, List.set_cons_succ]
      rfl
    refine done_ (by kernel_rfl) ?_
    clear hcf hcg hfg hfh hkp
    rename_i WA WB WC
    obtain ⟨hB4, s0_, s1_, s2_, s3_, s4_, t0_, t1_, t2_, t3_, t4_, u0_, u1_, u2_, u3_, u4_⟩ := hHeld
    clear s0_ s1_ s2_ s3_ s4_ t0_ t1_ t2_ t3_ t4_
    have hsp := Aside0.mk (hspo.out _ hB4)
    clear hB4 hspo
    go_wp2_with (first | (go_at_call 24; (with_reducible refine hsp.out.mono ?_); rintro e w5 ⟨rfl, hk5, io5⟩; clear hsp; have hdf5 := Aside0.mk (hdf.out w5 hk5); have hb5 := Aside0.mk (hfin.out w5 hk5 io5); obtain ⟨z0, z1, z2, z3, z4, y0, y1, y2, y3, y4⟩ := hk6.out w5 hk5; clear hk5 io5 hdf hfin hk6) | (go_at_call 22; (with_reducible refine hdf5.out.mono ?_); rintro e w6 ⟨rfl, hb6⟩; clear hdf5; replace hb6 := Aside0.mk hb6; have haw := Aside0.mk (IrA.awake w6)) | (go_at_call 11; (with_reducible refine haw.out.mono ?_); rintro e w7 ⟨rfl, hb7⟩; replace hb7 := Aside0.mk hb7))
    go_ret
    exact ⟨rfl, below_step hb5.out (below_step hb6.out hb7.out)⟩
end Go.Proofs.Ytobikiffjanagaa.Cpy
end
section
namespace Go.Proofs.Ytobikiffjanagaa.Cpy
open Go.RowKit Go.Proofs.YtobikiffjanagaaW.PrintWords Go.Proofs.Ytobikiffjanagaa.PIrCopies
theorem szF_of {x : S33} (g : OpnP.g33 x) : szF x := by
  obtain ⟨_, _, _, _, h1, h2⟩ := g
  refine ⟨by omega, fun b hb => ?_⟩
  obtain ⟨⟨h3, h4⟩, _, _, h5, _⟩ := h2 b hb
  refine ⟨by omega, by omega, fun i hi => ?_⟩
  obtain ⟨_, _, ⟨h6, _⟩, _, _, _, h7, _⟩ := h4 i hi
  exact ⟨by omega, by omega⟩
end Go.Proofs.Ytobikiffjanagaa.Cpy
end
section
namespace Go.Proofs.Ytobikiffjanagaa.irCopiesRow
open Go.ChangeShapes Go.WideShapes Go.ChangeAt Go.RowKit
open Go.ChangeMaps (open_string shut_string)
set_option linter.unusedVariables false
theorem own : ownKnob Try.prog.godebug = none := by kernel_rfl
theorem laid : laidOutB Try.prog = true := by kernel_rfl
set_option maxRecDepth 100000 in
set_option maxHeartbeats 4000000 in
theorem lifted (os : Os) (started : os.Started) (H : Type) (enc : TypeId × Value → H) :
    ReturnsInHanded {} Try.checked os 7 .any (Rows.irCopiesSpec.pre6 enc Try.prog Try.f7 Rows.irCopiesRow.domain false) (Rows.irCopiesSpec.post enc Try.prog Try.f7 false true false false) := by
  refine returnsInHanded_of_change_sized (C := Try.checked) own started (by kernel_rfl) Try.func7
    (ChangeSpec.witness6 (enc := enc) (C := Try.checked) false ⟨#[], #[.agg #[.string ⟨#[]⟩, .int .i64 0, .int .i64 0, .int .i64 0, .slice none 0 0], .agg #[.string ⟨#[]⟩, .int .i64 0, .int .i64 0, .int .i64 0, .slice none 0 0]], []⟩ 8 (by kernel_rfl) (by kernel_rfl) (by kernel_rfl) (by kernel_rfl)) ?_
  intro W base args ds gs before hval0 hW hcnd hsz0 _
  have hsz : (DataW.weightsEach Try.prog (Try.f7.params.toList ++ Rows.irCopiesSpec.plain.varTypes Try.prog) (ds ++ gs)).all (· ≤ reachBytes) = true := hsz0
  have hval : ∀ (j : Nat) t v, Try.f7.params[j]? = some t → args[j]? = some v → Value.okWide Try.prog W .any base t v := hval0
  have hW' := hW
  obtain ⟨p, q, hA0, hV, rfl, hfz, hnd⟩ := hW
  have hA : DataW.TrodAll enc Try.prog W 0 (fun _ => true) true Try.f7.params.toList args.toList ds p := hA0
  rw [Try.params7] at hA hval hsz
  obtain ⟨v0, vs0, d0, ds0, p0, q0, hargs, rfl, rfl, h0, r0⟩ := trodAll_cons hA
  obtain ⟨v1, vs1, d1, ds1, p1, q1, rfl, rfl, rfl, h1, r1⟩ := trodAll_cons r0
  obtain ⟨rfl, rfl, rfl⟩ := trodAll_nil r1
  obtain rfl : args = #[v0, v1] := by cases args; simp_all
  obtain ⟨rfl, rfl⟩ := trodVars_none hV
  have hlt : ∀ x ∈ p0 ++ p1, x.block < W.heap.size := fun x hx => by simpa using hW'.lt x (by simpa using hx)
  have hlt0 : ∀ x ∈ p0, x.block < W.heap.size := fun x hx => hlt x (by simp [hx])
  have k0 := h0
  have hlt1 : ∀ x ∈ p1, x.block < W.heap.size := fun x hx => hlt x (by simp [hx])
  have k1 := h1
  have ok0 := hval 0 33 v0 rfl rfl
  have ok1 := hval 1 33 v1 rfl rfl
  clear hA0 hval0 hsz0
  have s0 : ∀ W', Below W.heap.size W W' → _ := fun W' bel => Below.trod laid (t := 33) (by kernel_rfl) (of_decide_eq_true (by kernel_rfl)) k0 bel hlt0
  clear k0
  have s1 : ∀ W', Below W.heap.size W W' → _ := fun W' bel => Below.trod laid (t := 33) (by kernel_rfl) (of_decide_eq_true (by kernel_rfl)) k1 bel hlt1
  clear k1
  obtain ⟨cs0, x0, rfl, hK0, g0⟩ := Opn.arg_struct Try.underlying33 OpnP.o33 ok0 h0 (Opn.weight (j := 0) hsz rfl rfl)
  obtain ⟨A80, c80, rfl, l80, hB0⟩ := PIrCopies.k33_open hK0
  obtain ⟨cs1, x1, rfl, hK1, g1⟩ := Opn.arg_struct Try.underlying33 OpnP.o33 ok1 h1 (Opn.weight (j := 1) hsz rfl rfl)
  obtain ⟨A81, c81, rfl, l81, hB1⟩ := PIrCopies.k33_open hK1
  refine (Cpy.copies_law ⟨hB0⟩ l80 ⟨hB1⟩ l81 ⟨Cpy.szF_of g0⟩).mono fun e W' ⟨he, bel⟩ => ?_
  subst he
  exact ⟨_, rfl, _, _, _, [], _, [], hW', trodAll_mk1 (shut_bool Try.underlying4 _), (trodAll_cons_mk (s0 W' bel) (trodAll_cons_mk (s1 W' bel) trodAll_mk0)), rfl, bel.frame _, fun h => by cases h⟩
theorem over : Rows.irCopiesRow.holds Try.pinned (OpenSpec.ofChange Rows.irCopiesSpec) :=
  OpenClaim.holds_of_wide 7 Try.f7 rfl rfl rfl rfl rfl rfl rfl ⟨rfl, rfl, rfl, rfl, rfl⟩ rfl rfl rfl rfl rfl (by kernel_rfl) Try.func7 (by kernel_rfl)
    (of_decide_eq_true (by kernel_rfl)) (by unfold Func.isWrapper; first | (rw [if_pos (by decide +kernel)]; kernel_rfl) | (rw [if_neg (by decide +kernel)]; exact ⟨rfl, rfl⟩))
    (fun os started H enc _ => lifted os started H enc)
theorem proved : Rows.IrCopiesSaid := over
#print axioms proved
end Go.Proofs.Ytobikiffjanagaa.irCopiesRow
namespace Go.Proofs.Ytobikiffjanagaa
/-- The row, under a short name, for the claim. -/
theorem irCopies_holds : Rows.IrCopiesSaid := irCopiesRow.proved
end Go.Proofs.Ytobikiffjanagaa
end
