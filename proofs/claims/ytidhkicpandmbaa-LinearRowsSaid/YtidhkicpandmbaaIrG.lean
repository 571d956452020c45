/- The program's CheckFunc. -/
import Derived.Test.YtidhkicpandmbaaIrC
import Derived.Test.YtidhkicpandmbaaIrE
namespace Go.Proofs.Ytidhkicpandmbaa.IrA
open Go.RowKit Go.Proofs.YtidhkicpandmbaaW.PrintWords Go.Proofs.YtidhkicpandmbaaW.PrintLast Go.Proofs.YtidhkicpandmbaaW.PrintMore Go.Proofs.Ytidhkicpandmbaa.GF
set_option linter.unusedVariables false
set_option linter.unusedSimpArgs false

theorem range_all (p : Nat → Bool) (q : Nat) : (List.range (q + 1)).all p = ((List.range q).all p && p q) := by rw [List.range_succ, List.all_append]; simp
theorem range_no {p : Nat → Bool} {n q : Nat} (h : q < n) (hp : p q = false) : (List.range n).all p = false := by
  rw [← Bool.not_eq_true, List.all_eq_true]
  intro hh
  have := hh q (by simpa using h)
  rw [hp] at this
  cases this
def ahead (l : List S64) (q : Nat) : Bool := (l.take q).all fun x => x.f0 == 12
theorem ahead_succ (l : List S64) (q : Nat) (h : q < l.length) : ahead l (q + 1) = (ahead l q && (l.getD q z64).f0 == 12) := by
  unfold ahead
  rw [List.take_succ_eq_append_getElem h, List.all_append, List.getD_eq_getElem?_getD, List.getElem?_eq_getElem h]
  simp
def okAt (re : Int) (fs : List S28) (glob sl : Int) (ps : List (List Int)) (blk : Nat) (l : List S64) (q : Nat) : Bool := isB re fs glob sl ps blk (l.getD q z64) (pt (l.getD q z64).f0) && !((l.getD q z64).f0 == 12 && !ahead l q)
def codeTo (re : Int) (fs : List S28) (glob sl : Int) (ps : List (List Int)) (blk : Nat) (l : List S64) (q : Nat) : Bool := (List.range q).all (okAt re fs glob sl ps blk l)
def codesB (re : Int) (fs : List S28) (glob sl : Int) (bs : List S39) (j : Nat) : Bool := (List.range j).all fun i => codeTo re fs glob sl (predsP bs) i (bs.getD i z39).f0 (bs.getD i z39).f0.length
def sumTo (bs : List S39) (j : Nat) : Nat := ((bs.take j).map fun b => b.f0.length).sum
def endsTo (re : Int) (bs : List S39) (j : Nat) : Bool := (List.range j).all fun i => endB re bs.length (bs.getD i z39)
def sizesB (pa re sl : Int) (bs : List S39) : Bool := wi (bs.length : Int) 1 4096 && (wi pa 0 12 && (wi re pa 65536 && (wi sl 0 65536 && sl % 4 == 0)))
def checkB (fs : List S28) (glob pa re sl : Int) (bs : List S39) : Bool :=
  sizesB pa re sl bs && (endsTo re bs bs.length && (decide (sumTo bs bs.length ≤ 65536) && (((predsP bs).getD 0 []).length == 0 && codesB re fs glob sl bs bs.length)))
theorem sumTo_succ (bs : List S39) (j : Nat) (h : j < bs.length) : sumTo bs (j + 1) = sumTo bs j + (bs.getD j z39).f0.length := by
  unfold sumTo
  rw [List.take_succ_eq_append_getElem h, List.map_append, List.sum_append, List.getD_eq_getElem?_getD, List.getElem?_eq_getElem h]
  simp
/-- Numbers of their kinds, lists that memory can bear. -/
def gd64 (x : S64) : Prop := -2147483648 ≤ x.f3 ∧ x.f3 ≤ 2147483647
def gd39 (b : S39) : Prop := b.f0.length ≤ 17592186044416 ∧ ∀ x ∈ b.f0, gd64 x
theorem sumTo_le (bs : List S39) (hg : ∀ b ∈ bs, gd39 b) : ∀ j, j ≤ bs.length → sumTo bs j ≤ j * 17592186044416
  | 0, _ => by simp [sumTo]
  | j + 1, h => by
    rw [sumTo_succ bs j (by omega)]
    have := sumTo_le bs hg j (by omega)
    have h2 := (hg (bs.getD j z39) (by rw [List.getD_eq_getElem?_getD, List.getElem?_eq_getElem (by omega)]; exact List.getElem_mem (by omega))).1
    omega

/-- A program's values. -/
abbrev pv (A0 : Option Addr) (n0 c0 : Nat) (glob : Int) (A2 : Option Addr) (n2 c2 : Nat) (main : Int) : Value := .agg #[.slice A0 n0 c0, .int .i64 glob, .slice A2 n2 c2, .int .i64 main]
abbrev pb (A0 : Option Addr) (n0 c0 : Nat) (glob : Int) (A2 : Option Addr) (n2 c2 : Nat) (main : Int) : Obj := .cells #[.slice A0 n0 c0, .int .i64 glob, .slice A2 n2 c2, .int .i64 main] 25 (0, 0)
variable {w : World} {A0 A2 A8 : Option Addr} {n0 c0 n2 c2 c8 : Nat} {glob main pa re sl : Int} {nm : ByteArray} {fs : List S28} {bs : List S39}
def cer (b : Bool) : Int := if b = true then 0 else 1

set_option maxHeartbeats 16000000 in
set_option maxRecDepth 100000 in
theorem checkFunc_no (h : sizesB pa re sl bs = false) : Calls Try.prog 36 #[pv A0 n0 c0 glob A2 n2 c2 main, fv nm pa re sl A8 bs.length c8] w (RetB (.int .i64 1) w) := by
  have hB : Aside0 (Below w.heap.size w ((w.alloc (pb A0 n0 c0 glob A2 n2 c2 main)).alloc (fb nm pa re sl A8 bs.length c8))) := ⟨below_alloc (below_alloc (Below.refl _ _) _) _⟩
  unfold sizesB at h
  cases h1 : wi (bs.length : Int) 1 4096
  · have q1 := Aside0.mk (within (bs.length : Int) 1 4096)
    rw [h1] at q1
    clear h h1
    go_enter Try.func36, Try.ntmps36
    go_wp2_with ((with_reducible refine (q1.out _).mono ?_); rintro e w' ⟨rfl, rfl⟩)
    go_ret
    exact ⟨rfl, hB.out⟩
  have q1 := Aside0.mk (within (bs.length : Int) 1 4096)
  rw [h1] at q1 h
  clear h1
  have q2 := Aside0.mk (within pa 0 12)
  cases h2 : wi pa 0 12
  · rw [h2] at q2
    clear h h2
    go_enter Try.func36, Try.ntmps36
    go_wp2_with (first | ((with_reducible refine (q1.out _).mono ?_); rintro e w' ⟨rfl, rfl⟩) | ((with_reducible refine (q2.out _).mono ?_); rintro e w' ⟨rfl, rfl⟩))
    go_ret
    exact ⟨rfl, hB.out⟩
  rw [h2] at q2 h
  clear h2
  have q3 := Aside0.mk (within re pa 65536)
  cases h3 : wi re pa 65536
  · rw [h3] at q3
    clear h h3
    go_enter Try.func36, Try.ntmps36
    go_wp2_with (first | ((with_reducible refine (q1.out _).mono ?_); rintro e w' ⟨rfl, rfl⟩) | ((with_reducible refine (q2.out _).mono ?_); rintro e w' ⟨rfl, rfl⟩) | ((with_reducible refine (q3.out _).mono ?_); rintro e w' ⟨rfl, rfl⟩))
    go_ret
    exact ⟨rfl, hB.out⟩
  rw [h3] at q3 h
  clear h3
  have q4 := Aside0.mk (within sl 0 65536)
  cases h4 : wi sl 0 65536
  · rw [h4] at q4
    clear h h4
    go_enter Try.func36, Try.ntmps36
    go_wp2_with (first | ((with_reducible refine (q1.out _).mono ?_); rintro e w' ⟨rfl, rfl⟩) | ((with_reducible refine (q2.out _).mono ?_); rintro e w' ⟨rfl, rfl⟩) | ((with_reducible refine (q3.out _).mono ?_); rintro e w' ⟨rfl, rfl⟩) | ((with_reducible refine (q4.out _).mono ?_); rintro e w' ⟨rfl, rfl⟩))
    go_ret
    exact ⟨rfl, hB.out⟩
  rw [h4] at q4 h
  have hs : 0 ≤ sl ∧ sl ≤ 65536 := by unfold wi at h4; simp at h4; omega
  obtain ⟨hs0, hs1⟩ := hs
  clear h4
  have h5 : (sl % 4 != 0) = true := by simpa using h
  have h6 : ¬ (sl % 4 = 0) := by simpa using h
  clear h
  go_enter Try.func36, Try.ntmps36
  go_wp2_with (first | ((with_reducible refine (q1.out _).mono ?_); rintro e w' ⟨rfl, rfl⟩) | ((with_reducible refine (q2.out _).mono ?_); rintro e w' ⟨rfl, rfl⟩) | ((with_reducible refine (q3.out _).mono ?_); rintro e w' ⟨rfl, rfl⟩) | ((with_reducible refine (q4.out _).mono ?_); rintro e w' ⟨rfl, rfl⟩))
  go_ret
  exact ⟨rfl, hB.out⟩

theorem getD_mem {α : Type} (l : List α) (d : α) (i : Nat) (h : i < l.length) : l.getD i d ∈ l := by
  rw [List.getD_eq_getElem?_getD, List.getElem?_eq_getElem h]
  exact List.getElem_mem h
theorem T58_nat (bs : List S39) (j : Nat) : rd_T39 bs (j : Int) = bs.getD j z39 := by simp [rd_T39]
theorem T44_nat (l : List S64) (j : Nat) : rd_T64 l (j : Int) = l.getD j z64 := by simp [rd_T64]
set_option maxHeartbeats 16000000 in
set_option maxRecDepth 100000 in
theorem checkFunc_yes (h : sizesB pa re sl bs = true) (hgd : Aside0 (∀ b ∈ bs, gd39 b)) (hn : fs.length = n0) (hf : Aside0 (Kd.C k28 w A0 n0 fs)) (hb : Aside0 (Kd.C k39 w A8 bs.length bs)) :
    Calls Try.prog 36 #[pv A0 n0 c0 glob A2 n2 c2 main, fv nm pa re sl A8 bs.length c8] w (RetB (.int .i64 (cer (checkB fs glob pa re sl bs))) w) := by
  have hB : Aside0 (Below w.heap.size w ((w.alloc (pb A0 n0 c0 glob A2 n2 c2 main)).alloc (fb nm pa re sl A8 bs.length c8))) := ⟨below_alloc (below_alloc (Below.refl _ _) _) _⟩
  have hfin : Aside0 (checkB fs glob pa re sl bs = (endsTo re bs bs.length && (decide (sumTo bs bs.length ≤ 65536) && (((predsP bs).getD 0 []).length == 0 && codesB re fs glob sl bs bs.length)))) := ⟨by unfold checkB; rw [h]; rfl⟩
  unfold sizesB at h
  have q1 := Aside0.mk (within (bs.length : Int) 1 4096)
  have q2 := Aside0.mk (within pa 0 12)
  have q3 := Aside0.mk (within re pa 65536)
  have q4 := Aside0.mk (within sl 0 65536)
  simp only [Bool.and_eq_true, beq_iff_eq] at h
  obtain ⟨h1, h2, h3, h4, h5⟩ := h
  rw [h1] at q1
  rw [h2] at q2
  rw [h3] at q3
  rw [h4] at q4
  have hs : (1 ≤ bs.length ∧ bs.length ≤ 4096) ∧ 0 ≤ re ∧ re ≤ 65536 ∧ 0 ≤ sl ∧ sl ≤ 65536 := by unfold wi at h1 h2 h3 h4; simp at h1 h2 h3 h4; omega
  obtain ⟨⟨n1, n4⟩, re0, re1, sl0, sl1⟩ := hs
  clear h1 h2 h3 h4
  have h6 : (sl % 4 != 0) = false := by simp [h5]
  clear h5
  let c : Ckr := ⟨A0, n0, c0, glob, .slice A2 n2 c2, main, nm, pa, re, sl, A8, bs.length, c8, .slice none 0 0⟩
  have hg1 : Aside0 ((((w.alloc (pb A0 n0 c0 glob A2 n2 c2 main)).alloc (fb nm pa re sl A8 bs.length c8)).alloc c.obj).heap[w.heap.size + 1 + 1]? = some c.obj) := ⟨by have := blk_new ((w.alloc (pb A0 n0 c0 glob A2 n2 c2 main)).alloc (fb nm pa re sl A8 bs.length c8)) c.obj; simp only [World.size_alloc] at this; exact this⟩
  have hF1 : Aside0 ((((w.alloc (pb A0 n0 c0 glob A2 n2 c2 main)).alloc (fb nm pa re sl A8 bs.length c8)).alloc c.obj).heap[w.heap.size + 1]? = some (fb nm pa re sl A8 bs.length c8)) := ⟨by have := blk_new (w.alloc (pb A0 n0 c0 glob A2 n2 c2 main)) (fb nm pa re sl A8 bs.length c8); simp only [World.size_alloc] at this; exact blk_alloc this _⟩
  have hB1 : Aside0 (Below w.heap.size w (((w.alloc (pb A0 n0 c0 glob A2 n2 c2 main)).alloc (fb nm pa re sl A8 bs.length c8)).alloc c.obj)) := ⟨below_step hB.out (below_alloc (Below.refl _ _) _)⟩
  have hsum0 : Aside0 (sumTo bs 0 = 0) := ⟨rfl⟩
  clear hB
  go_enter Try.func36, Try.ntmps36
  go_wp2_with (first | ((with_reducible refine (q1.out _).mono ?_); rintro e w' ⟨rfl, rfl⟩) | ((with_reducible refine (q2.out _).mono ?_); rintro e w' ⟨rfl, rfl⟩) | ((with_reducible refine (q3.out _).mono ?_); rintro e w' ⟨rfl, rfl⟩) | ((with_reducible refine (q4.out _).mono ?_); rintro e w' ⟨rfl, rfl⟩))
  go_loopw [7, 52] (fun s i wr => ∃ j : Nat, j ≤ bs.length ∧ i = .int .i64 j ∧ s = .int .i64 (sumTo bs j : Nat) ∧ Aside0 (wr.heap[w.heap.size + 1 + 1]? = some c.obj) ∧ Aside0 (wr.heap[w.heap.size + 1]? = some (fb nm pa re sl A8 bs.length c8)) ∧ Aside0 (Below w.heap.size w wr) ∧ Aside0 (endsTo re bs j = true)) (fun _ i _ => bs.length - (intOf i).toNat)
  case atStart => exact ⟨0, by omega, rfl, rfl, hg1, hF1, hB1, ⟨rfl⟩⟩
  case round =>
    obtain ⟨j, hj, rfl, rfl, hg2, hF2, hB2, hE2⟩ := hrel
    clear hg1 hF1 hB1
    have hsl := sumTo_le bs hgd.out j hj
    by_cases hlt : j < bs.length
    · obtain ⟨ad, B0, d0, B3, d3, e, x0, x1, x2, x3, l0, g0, l3, g3⟩ := at_T39 hb.out (j : Int) (by omega) (by omega)
      cases e
      simp only [Int.toNat_natCast] at x0 x1 x2 x3
      replace x0 := (hB2.out.cell (World.block_lt_of_cell? w _ x0)).trans x0
      replace x1 := (hB2.out.cell (World.block_lt_of_cell? w _ x1)).trans x1
      replace x2 := (hB2.out.cell (World.block_lt_of_cell? w _ x2)).trans x2
      replace x3 := (hB2.out.cell (World.block_lt_of_cell? w _ x3)).trans x3
      have hss := sumTo_succ bs j hlt
      have hgb := (hgd.out (bs.getD j z39) (getD_mem bs z39 j hlt)).1
      have hes := range_all (fun i => endB re bs.length (bs.getD i z39)) j
      have heno := range_no (p := fun i => endB re bs.length (bs.getD i z39)) hlt
      rw [T58_nat] at x0 x1 x2 x3 l0 g0 l3 g3
      try dsimp only at hes heno
      generalize bs.getD j z39 = b at *
      have g3 := Aside0.mk (Kd.C_below g3 (below_step hB2.out (below_alloc (Below.refl wr.heap.size wr) (bb b B0 B3 d0 d3))))
      clear g0 l0 l3
      have hg3 := Aside0.mk (blk_alloc hg2.out (bb b B0 B3 d0 d3))
      have hF3 := Aside0.mk (blk_alloc hF2.out (bb b B0 B3 d0 d3))
      have hB3 := Aside0.mk (below_step hB2.out (below_alloc (Below.refl wr.heap.size wr) (bb b B0 B3 d0 d3)))
      have hend := Aside0.mk (end_ (c := c) hg3 b B0 B3 d0 d3 re0 re1 (by show bs.length ≤ 65536; omega) g3)
      have hss := Aside0.mk hss
      have hwr : ((sumTo bs j : Nat) : Int) + (b.f0.length : Int) ≤ 9223372036854775807 := by omega
      cases hv : endB re bs.length b
      · have hend : Aside0 (Calls Try.prog 50 #[P (w.heap.size + 1 + 1), bv b B0 B3 d0 d3] (wr.alloc (bb b B0 B3 d0 d3)) (RetB (.bool false) (wr.alloc (bb b B0 B3 d0 d3)))) := ⟨by rw [← hv]; exact hend.out⟩
        have hres : Aside0 (cer (checkB fs glob pa re sl bs) = 1) := ⟨by rw [hfin.out, show endsTo re bs bs.length = false from heno hv]; rfl⟩
        clear hes heno hv hF2 hg2 hB2
        go_wp2_with fail
        (with_reducible refine hend.out.mono ?_)
        rintro e w5 ⟨rfl, hb5⟩
        have hB5 := Aside0.mk (below_step hB3.out hb5)
        clear hb5
        go_wp2
        go_ret
        rw [hres.out]
        exact ⟨rfl, hB5.out⟩
      · have hend : Aside0 (Calls Try.prog 50 #[P (w.heap.size + 1 + 1), bv b B0 B3 d0 d3] (wr.alloc (bb b B0 B3 d0 d3)) (RetB (.bool true) (wr.alloc (bb b B0 B3 d0 d3)))) := ⟨by rw [← hv]; exact hend.out⟩
        have hE3 : Aside0 (endsTo re bs (j + 1) = true) := ⟨by have := hE2.out; unfold endsTo at this ⊢; rw [hes, this, hv]; rfl⟩
        clear hes heno hv hF2 hg2 hB2
        go_wp2_with fail
        (with_reducible refine hend.out.mono ?_)
        rintro e w5 ⟨rfl, hb5⟩
        have hB5 := Aside0.mk (below_step hB3.out hb5)
        have hg5 := Aside0.mk ((hb5.block _ (blk_lt hg3.out)).trans hg3.out)
        have hF5 := Aside0.mk ((hb5.block _ (blk_lt hF3.out)).trans hF3.out)
        clear hb5
        go_wp2
        exact ⟨⟨j + 1, by omega, by go_num, by rw [hss.out]; go_num, hg5, hF5, hB5, hE3⟩, by simp [intOf]; omega⟩
    · obtain rfl : j = bs.length := by omega
      have hfin2 : Aside0 (checkB fs glob pa re sl bs = (decide (sumTo bs bs.length ≤ 65536) && (((predsP bs).getD 0 []).length == 0 && codesB re fs glob sl bs bs.length))) := ⟨by rw [hfin.out, hE2.out]; rfl⟩
      have y0 : wr.cell? ⟨w.heap.size + 1, 0, none⟩ = some (.string nm) := (blk_cell hF2.out 0).trans rfl
      have y1 : wr.cell? ⟨w.heap.size + 1, 1, none⟩ = some (.int .i64 pa) := (blk_cell hF2.out 1).trans rfl
      have y2 : wr.cell? ⟨w.heap.size + 1, 2, none⟩ = some (.int .i64 re) := (blk_cell hF2.out 2).trans rfl
      have y3 : wr.cell? ⟨w.heap.size + 1, 3, none⟩ = some (.int .i64 sl) := (blk_cell hF2.out 3).trans rfl
      have y4 : wr.cell? ⟨w.heap.size + 1, 4, none⟩ = some (.slice A8 bs.length c8) := (blk_cell hF2.out 4).trans rfl
      clear hE2 hfin q1 q2 q3 q4 hsum0
      go_wp2_with fail
      (with_reducible refine (preds nm pa re sl A8 c8 bs ⟨Kd.C_below hb.out hB2.out⟩ (by omega)).mono ?_)
      rintro e w5 ⟨v, rfl, hL, hb5⟩
      have hg5 := (hb5.block _ (blk_lt hg2.out)).trans hg2.out
      have hF5 := (hb5.block _ (blk_lt hF2.out)).trans hF2.out
      have hB5 := below_step hB2.out hb5
      have hPl : (predsP bs).length = bs.length := predsTo_length bs _
      obtain ⟨A9, c9, e9⟩ := Kd.S_slice hL
      rw [hPl] at e9
      subst e9
      let c' : Ckr := ⟨A0, n0, c0, glob, .slice A2 n2 c2, main, nm, pa, re, sl, A8, bs.length, c8, .slice A9 bs.length c9⟩
      have hg6 : Aside0 ((w5.setCell ⟨w.heap.size + 1 + 1, 9, none⟩ (.slice A9 bs.length c9)).heap[w.heap.size + 1 + 1]? = some c'.obj) := ⟨blk_put hg5 9 _ rfl⟩
      have hF6 : Aside0 ((w5.setCell ⟨w.heap.size + 1 + 1, 9, none⟩ (.slice A9 bs.length c9)).heap[w.heap.size + 1]? = some (fb nm pa re sl A8 bs.length c8)) := ⟨(Below.heap_setCell _ _ _ _ (by show w.heap.size + 1 ≠ w.heap.size + 1 + 1; omega)).trans hF5⟩
      have hB6 : Aside0 (Below w.heap.size w (w5.setCell ⟨w.heap.size + 1 + 1, 9, none⟩ (.slice A9 bs.length c9))) := ⟨hB5.setCell (by show w.heap.size ≤ w.heap.size + 1 + 1; omega) _⟩
      have hL6 := Kd.S_set hL hg5 (by decide) 9 (.slice A9 bs.length c9)
      have hC6 := Aside0.mk (Kd.S_reads' hL6)
      obtain ⟨gO, cO', eO, hgb, hgl, cells, hgo⟩ := Kd.S_form hL6 (by rw [hPl]; omega)
      rw [hPl] at eO
      cases eO
      have k9 : w5.cell? ⟨w.heap.size + 1 + 1, 9, none⟩ = some (.slice none 0 0) := (blk_cell hg5 9).trans rfl
      have f9 : w5.frozen? ⟨w.heap.size + 1 + 1, 9, none⟩ = false := blk_frozen hg5 9
      clear hL6 hL hg5 hF5 hB5 hb5 hg2 hF2 hB2 y0 y1 y2 y3 y4 hgo
      go_upto_region 14 with (fail)
      clear k9 f9
      generalize w5.setCell ⟨w.heap.size + 1 + 1, 9, none⟩ (.slice (some ⟨gO, 0, none⟩) bs.length c9) = W6 at *
      obtain ⟨ad9, B9, d9, e9, z0, _, _⟩ := atL hC6.out.2.2 0 (by omega)
      cases e9
      have hap := add_plain gO 0
      have k9 : W6.cell? ⟨w.heap.size + 1 + 1, 9, none⟩ = some (.slice (some ⟨gO, 0, none⟩) bs.length c9) := (blk_cell hg6.out 9).trans rfl
      rw [hap] at z0
      generalize hS : sumTo bs bs.length = S at *
      generalize hP0 : ((predsP bs).getD 0 []).length = p0 at *
      have hsl2 : S ≤ bs.length * 17592186044416 := hsl
      by_cases hs6 : S ≤ 65536
      · by_cases hp : p0 = 0
        · have hp1 : decide ((0 : Int) < (p0 : Int)) = false := by simp [hp]
          have hp2 : decide (0 < p0) = false := by simp [hp]
          have hfin3 : Aside0 (checkB fs glob pa re sl bs = codesB re fs glob sl bs bs.length) := ⟨by rw [hfin2.out, hp]; simp [hs6]⟩
          have hS := Aside0.mk hS
          have hP0 := Aside0.mk hP0
          have y4 : W6.cell? ⟨w.heap.size + 1, 4, none⟩ = some (.slice A8 bs.length c8) := (blk_cell hF6.out 4).trans rfl
          clear hp hfin2
          go_wp2
          clear y4 z0 k9 hp1 hp2 hs6 hsl2 hsl
          go_loopw [86] (fun i wr => ∃ j : Nat, j ≤ bs.length ∧ i = .int .i64 j ∧ Aside0 (Below W6.heap.size W6 wr) ∧ Aside0 (codesB re fs glob sl bs j = true)) (fun i _ => bs.length - (intOf i).toNat)
          case atStart => exact ⟨0, by omega, rfl, ⟨Below.refl _ _⟩, ⟨rfl⟩⟩
          case round =>
            obtain ⟨j, hj, rfl, hW, hK⟩ := hrel
            by_cases hlt : j < bs.length
            · obtain ⟨ad, B0, d0, B3, d3, e, x0, x1, x2, x3, l0, g0, l3, g3⟩ := at_T39 hb.out (j : Int) (by omega) (by omega)
              cases e
              simp only [Int.toNat_natCast] at x0 x1 x2 x3
              have bw := below_step hB6.out hW.out
              replace x0 := (bw.cell (World.block_lt_of_cell? w _ x0)).trans x0
              replace x1 := (bw.cell (World.block_lt_of_cell? w _ x1)).trans x1
              replace x2 := (bw.cell (World.block_lt_of_cell? w _ x2)).trans x2
              replace x3 := (bw.cell (World.block_lt_of_cell? w _ x3)).trans x3
              have hgb := (hgd.out (bs.getD j z39) (getD_mem bs z39 j hlt)).2
              have hcs := range_all (fun i => codeTo re fs glob sl (predsP bs) i (bs.getD i z39).f0 (bs.getD i z39).f0.length) j
              have hcno := range_no (p := fun i => codeTo re fs glob sl (predsP bs) i (bs.getD i z39).f0 (bs.getD i z39).f0.length) hlt
              rw [T58_nat] at x0 x1 x2 x3 l0 g0 l3 g3
              try dsimp only at hcs hcno
              generalize bs.getD j z39 = b at *
              have hgb := Aside0.mk hgb
              have g0 := Aside0.mk g0
              have hmx := Kd.C_max g0.out
              have hW2 := Aside0.mk (below_step hW.out (below_alloc (Below.refl wr.heap.size wr) (bb b B0 B3 d0 d3)))
              have hcs := Aside0.mk hcs
              have hcno := Aside0.mk hcno
              clear g3 l0 l3 bw hW
              go_wp2
              clear x0 x1 x2 x3
              go_loopw [12, 94] (fun s i wq => ∃ q : Nat, q ≤ b.f0.length ∧ i = .int .i64 q ∧ s = .bool (ahead b.f0 q) ∧ Aside0 (Below W6.heap.size W6 wq) ∧ Aside0 (codeTo re fs glob sl (predsP bs) j b.f0 q = true)) (fun _ i _ => b.f0.length - (intOf i).toNat)
              case atStart => exact ⟨0, by omega, rfl, rfl, hW2, ⟨rfl⟩⟩
              case round =>
                obtain ⟨q, hq, rfl, rfl, hQ, hC⟩ := hrel
                clear hW2
                by_cases hqt : q < b.f0.length
                · obtain ⟨a4, B2, e2, B6, e6, e, u0, u1, u2, u3, u4, u5, u6, m2, M2, m6, M6⟩ := at_T64 g0.out (q : Int) (by omega) (by omega)
                  cases e
                  simp only [Int.toNat_natCast] at u0 u1 u2 u3 u4 u5 u6
                  have bw := below_step hB6.out hQ.out
                  replace u0 := (bw.cell (World.block_lt_of_cell? w _ u0)).trans u0
                  replace u1 := (bw.cell (World.block_lt_of_cell? w _ u1)).trans u1
                  replace u2 := (bw.cell (World.block_lt_of_cell? w _ u2)).trans u2
                  replace u3 := (bw.cell (World.block_lt_of_cell? w _ u3)).trans u3
                  replace u4 := (bw.cell (World.block_lt_of_cell? w _ u4)).trans u4
                  replace u5 := (bw.cell (World.block_lt_of_cell? w _ u5)).trans u5
                  replace u6 := (bw.cell (World.block_lt_of_cell? w _ u6)).trans u6
                  have hok : okAt re fs glob sl (predsP bs) j b.f0 q = (isB re fs glob sl (predsP bs) j (b.f0.getD q z64) (pt (b.f0.getD q z64).f0) && !((b.f0.getD q z64).f0 == 12 && !ahead b.f0 q)) := rfl
                  have hstp := range_all (okAt re fs glob sl (predsP bs) j b.f0) q
                  have hno := range_no (p := okAt re fs glob sl (predsP bs) j b.f0) hqt
                  have hah := ahead_succ b.f0 q hqt
                  have hgx := hgb.out _ (getD_mem b.f0 z64 q hqt)
                  rw [T44_nat] at u0 u1 u2 u3 u4 u5 u6 m2 M2 m6 M6
                  generalize b.f0.getD q z64 = x at *
                  obtain ⟨gx0, gx1⟩ := hgx
                  have bA := below_alloc (Below.refl wr.heap.size wr) (ib x B2 B6 e2 e6)
                  have bw2 := below_step bw bA
                  have bq2 := below_step hQ.out bA
                  have hin := Aside0.mk (instr (w := wr.alloc (ib x B2 B6 e2 e6)) (g := w.heap.size + 1 + 1) (c := c') ⟨(bq2.block _ (blk_lt hg6.out)).trans hg6.out⟩ x B2 B6 e2 e6 j (pt x.f0) ⟨shape x.f0⟩ re0 re1 gx0 gx1 fs hn ⟨Kd.C_below hf.out bw2⟩ ⟨Kd.C_below M2 bw2⟩ ⟨Kd.C_below M6 bw2⟩ m2 m6 (some ⟨gO, 0, none⟩) c9 (predsP bs) (by show Value.slice _ bs.length c9 = _; rw [hPl]) ⟨Kd.C_below hC6.out.2.2 bq2⟩ (by rw [hPl]; exact hlt))
                  have hI := Aside0.mk (blk_new wr (ib x B2 B6 e2 e6))
                  have hQ2 := Aside0.mk bq2
                  clear m2 M2 m6 M6 bw bA bw2 bq2 hQ
                  have hin : Aside0 (Calls Try.prog 52 #[P (w.heap.size + 1 + 1), iv x B2 B6 e2 e6, .int .i64 j] (wr.alloc (ib x B2 B6 e2 e6)) (RetB (.bool (isB re fs glob sl (predsP bs) j x (pt x.f0))) (wr.alloc (ib x B2 B6 e2 e6)))) := hin
                  have hlI : wr.heap.size < (wr.alloc (ib x B2 B6 e2 e6)).heap.size := by simp
                  generalize hiv : isB re fs glob sl (predsP bs) j x (pt x.f0) = iv at *
                  cases iv
                  · have hres : Aside0 (cer (checkB fs glob pa re sl bs) = 1) := ⟨by
                      rw [hfin3.out, show codesB re fs glob sl bs bs.length = false from hcno.out (hno (by rw [hok]; rfl))]
                      rfl⟩
                    clear hok hstp hno hah hcs hcno hiv
                    go_wp2_with fail
                    (with_reducible refine hin.out.mono ?_)
                    rintro e w7 ⟨rfl, b7⟩
                    have hQ7 := Aside0.mk (below_step hQ2.out b7)
                    clear b7
                    go_wp2
                    go_ret
                    rw [hres.out]
                    exact ⟨rfl, below_step hB6.out hQ7.out⟩
                  · cases h12 : (x.f0 == 12)
                    · have hah2 : Aside0 (ahead b.f0 (q + 1) = false) := ⟨by rw [hah, h12]; simp⟩
                      have hC2 : Aside0 (codeTo re fs glob sl (predsP bs) j b.f0 (q + 1) = true) := ⟨by
                        have h := hC.out
                        unfold codeTo at h ⊢
                        rw [hstp, h, hok, h12]
                        rfl⟩
                      generalize hav : ahead b.f0 q = av at *
                      clear hok hstp hno hah hiv hav
                      cases av
                      all_goals
                        go_wp2_with fail
                        (with_reducible refine hin.out.mono ?_)
                        rintro e w7 ⟨rfl, b7⟩
                        have hQ7 := Aside0.mk (below_step hQ2.out b7)
                        have v0 : w7.cell? ⟨wr.heap.size, 0, none⟩ = some (.int .i64 x.f0) := (blk_cell ((b7.block _ (blk_lt hI.out)).trans hI.out) 0).trans rfl
                        clear b7
                        go_wp2
                        exact ⟨⟨q + 1, by omega, by go_num, by rw [hah2.out], hQ7, hC2⟩, by simp [intOf]; omega⟩
                    · generalize hav : ahead b.f0 q = av at *
                      cases av
                      · have hres : Aside0 (cer (checkB fs glob pa re sl bs) = 1) := ⟨by
                          rw [hfin3.out, show codesB re fs glob sl bs bs.length = false from hcno.out (hno (by rw [hok, h12]; rfl))]
                          rfl⟩
                        clear hok hstp hno hah hcs hcno hiv hav
                        go_wp2_with fail
                        (with_reducible refine hin.out.mono ?_)
                        rintro e w7 ⟨rfl, b7⟩
                        have hQ7 := Aside0.mk (below_step hQ2.out b7)
                        have v0 : w7.cell? ⟨wr.heap.size, 0, none⟩ = some (.int .i64 x.f0) := (blk_cell ((b7.block _ (blk_lt hI.out)).trans hI.out) 0).trans rfl
                        clear b7
                        go_wp2
                        go_ret
                        rw [hres.out]
                        exact ⟨rfl, below_step hB6.out hQ7.out⟩
                      · have hah2 : Aside0 (ahead b.f0 (q + 1) = true) := ⟨by rw [hah, h12]; rfl⟩
                        have hC2 : Aside0 (codeTo re fs glob sl (predsP bs) j b.f0 (q + 1) = true) := ⟨by
                          have h := hC.out
                          unfold codeTo at h ⊢
                          rw [hstp, h, hok, h12]
                          rfl⟩
                        clear hok hstp hno hah hiv hav
                        go_wp2_with fail
                        (with_reducible refine hin.out.mono ?_)
                        rintro e w7 ⟨rfl, b7⟩
                        have hQ7 := Aside0.mk (below_step hQ2.out b7)
                        have v0 : w7.cell? ⟨wr.heap.size, 0, none⟩ = some (.int .i64 x.f0) := (blk_cell ((b7.block _ (blk_lt hI.out)).trans hI.out) 0).trans rfl
                        clear b7
                        go_wp2
                        exact ⟨⟨q + 1, by omega, by go_num, by rw [hah2.out], hQ7, hC2⟩, by simp [intOf]; omega⟩
                · obtain rfl : q = b.f0.length := by omega
                  have hK2 : Aside0 (codesB re fs glob sl bs (j + 1) = true) := ⟨by have h := hK.out; unfold codesB at h ⊢; rw [hcs.out, h, hC.out]; rfl⟩
                  go_wp2
                  exact ⟨⟨j + 1, by omega, by go_num, hQ, hK2⟩, by simp [intOf]; omega⟩
            · obtain rfl : j = bs.length := by omega
              have hres : Aside0 (cer (checkB fs glob pa re sl bs) = 0) := ⟨by rw [hfin3.out, hK.out]; rfl⟩
              go_wp2
              go_ret
              rw [hres.out]
              exact ⟨rfl, below_step hB6.out hW.out⟩
        · have hp1 : decide ((0 : Int) < (p0 : Int)) = true := by simp; omega
          have hp2 : decide (0 < p0) = true := by simp; omega
          have hres : Aside0 (cer (checkB fs glob pa re sl bs) = 1) := ⟨by rw [hfin2.out, show (p0 == 0) = false by simp [hp]]; simp [cer]⟩
          clear hS hP0 hp hfin2
          go_wp2
          go_ret
          rw [hres.out]
          exact ⟨rfl, hB6.out⟩
      · have hres : Aside0 (cer (checkB fs glob pa re sl bs) = 1) := ⟨by rw [hfin2.out, show decide (S ≤ 65536) = false by simp [hs6]]; rfl⟩
        have hs7 : 65536 < S := by omega
        clear hS hP0 hfin2 hs6
        go_wp2
        go_ret
        rw [hres.out]
        exact ⟨rfl, hB6.out⟩
end Go.Proofs.Ytidhkicpandmbaa.IrA
