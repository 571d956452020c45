/- What is refused, and what is not: the walk of the law. -/
import Derived.Test.YtfdhpogpeajifaaLaN
namespace Go.Proofs.Ytfdhpogpeajifaa.Lat
open Go.RowKit Go.Proofs.YtfdhpogpeajifaaW.PrintWords Go.Proofs.YtfdhpogpeajifaaW.PrintLast Go.Proofs.YtfdhpogpeajifaaW.PrintMore
set_option linter.unusedVariables false
set_option linter.unusedSimpArgs false
/-- An answer, or none where the calls did not reach. -/
def RetA (n m : Nat) (most : Int) (w : World) (e : Ending) (w' : World) : Prop :=
  ∃ v1 v2 cd, e = .returned (.tuple #[v1, v2, .int .i64 cd]) ∧ (cd = 0 ∨ (cd = 2 ∧ most < 65 * ((n : Int) + m + 1))) ∧ Below w.heap.size w w'
theorem solve_any {w : World} {bt : V} {l : List Nd} {A : Option Addr} {es : List (Int × Int)} {c : Nat} (hE : Aside0 (kE.C w A es.length es)) {bp : Nat} (hC : Aside0 (Cap w bp l)) (hN : l.length ≤ 64) (hes : es.length ≤ 256) (hok : allOk l.length es = true) (most : Int) (hm : 1 ≤ most) (hbt : Aside0 (bt = (may l (nE es)).bot)) :
    Calls Try.prog 9 #[pv l.length A es.length c bt (fv 24 #[PP bp]) (fv 25 #[]) (fv 26 #[]) (fv 27 #[PP bp]), .int .i64 most] w (RetA l.length es.length most w) := (solve_may bt l A es c hE bp hC most hN hes hok hm hbt).mono fun e w' h => by
  rcases h with ⟨gI, gO, I, O, h1, h2, h3, h4, h5⟩ | ⟨h1, h2, h3⟩
  · exact ⟨_, _, 0, h1, .inl rfl, h5⟩
  · have h1 : most < (l.length : Int) + 64 * es.length := h1
    exact ⟨_, _, 2, h2, .inr ⟨rfl, by omega⟩, h3⟩
set_option maxHeartbeats 8000000 in
set_option maxRecDepth 100000 in
theorem refuses_big {w : World} (A : Option Addr) (n c : Nat) (A1 : Option Addr) (m c1 : Nat) (most : Int) (h : 64 < n ∨ 256 < m) (hn : n ≤ 9223372036854775807) (hm : m ≤ 9223372036854775807) :
    Calls Try.prog 7 #[.slice A n c, .slice A1 m c1, .int .i64 most] w (RetB (.bool true) w) := by
  by_cases h1 : 64 < n
  · clear h
    go_enter Try.func7, Try.ntmps7
    go_wp2_with (go_at_call 8; (with_reducible refine (awake_ _).mono ?_); rintro e w1 ⟨rfl, hb⟩; replace hb := Aside0.mk hb)
    go_ret
    exact ⟨rfl, hb.out⟩
  · have h2 : 256 < m := by omega
    clear h
    go_enter Try.func7, Try.ntmps7
    go_wp2_with (go_at_call 8; (with_reducible refine (awake_ _).mono ?_); rintro e w1 ⟨rfl, hb⟩; replace hb := Aside0.mk hb)
    go_ret
    exact ⟨rfl, hb.out⟩
set_option maxHeartbeats 16000000 in
set_option maxRecDepth 100000 in
theorem refuses_edges {w : World} (A : Option Addr) (l : List Nd) (c : Nat) (hNn : Aside0 (kN.C w A l.length l)) (A1 : Option Addr) (es : List (Int × Int)) (c1 : Nat) (hE : Aside0 (kE.C w A1 es.length es)) (h1 : l.length ≤ 64) (h2 : es.length ≤ 256) (most : Int) (m0 : -9223372036854775808 ≤ most) (m1 : most ≤ 9223372036854775807) (hok : allOk l.length es = false) :
    Calls Try.prog 7 #[.slice A l.length c, .slice A1 es.length c1, .int .i64 most] w (RetB (.bool true) w) := by
  have hed : ∀ W, Below w.heap.size w W → Aside0 (Calls Try.prog 11 #[.slice A1 es.length c1, .int .i64 (l.length : Int)] W fun e w' => e = .returned (.bool false) ∧ W = w') := fun W b => ⟨by have := edges_ (w := W) (A := A1) (c := c1) (es := es) l.length ⟨Kd.C_below hE.out b⟩; rw [hok] at this; exact this⟩
  have hbad := fun (W : World) (bt : V) (A2 : Option Addr) (c2 bp : Nat) (hc : Aside0 (kE.C W A2 es.length es)) => Aside0.mk (solve_bad (bt := bt) (c := c2) (bp := bp) hc h1 most (.inl hok))
  replace hok := Aside0.mk hok
  have hnil := fun (W : World) (A2 : Option Addr) (c2 : Nat) (bt : V) (b : Nat) => Aside0.mk (solve_no (w := W) (l.length : Int) A2 es.length c2 bt (fv 24 #[PP b]) (fv 25 #[]) (fv 26 #[]) .nilFunc 1048576 false (.inl rfl) (fun W' _ => ⟨may_nil l.length (by omega) A2 es.length c2 bt 24 25 26 #[PP b] #[] #[]⟩))
  have hneg := fun (W : World) (A2 : Option Addr) (c2 : Nat) (bt : V) (f1 f2 f3 f4 : Value) => Aside0.mk (solve_no (w := W) (-1) A2 es.length c2 bt f1 f2 f3 f4 1048576 false (.inl rfl) (fun W' _ => ⟨may_neg (-1) (by omega) A2 es.length c2 bt f1 f2 f3 f4⟩))
  have hw1 : IntKind.i64.wrap ((l.length : Int) + es.length) = (l.length : Int) + es.length := IntWalk.i64_in _ (by omega)
  have hw2 : IntKind.i64.wrap ((l.length : Int) + es.length + 1) = (l.length : Int) + es.length + 1 := IntWalk.i64_in _ (by omega)
  have hw3 : IntKind.i64.wrap (65 * ((l.length : Int) + es.length + 1)) = 65 * ((l.length : Int) + es.length + 1) := IntWalk.i64_in _ (by omega)
  go_enter Try.func7, Try.ntmps7
  go_upto_region 4 with (go_at_call 10; (with_reducible refine (problemB hNn hE (by omega)).mono ?_); rintro e w1 ⟨A2, c2, b, bt, rfl, hbt, hE2, hC2, hb1⟩)
  have hX := Aside0.mk (blk_new w1 (pb l.length A2 es.length c2 bt (fv 24 #[PP b]) (fv 25 #[]) (fv 26 #[]) (fv 27 #[PP b])))
  have hB := Aside0.mk (below_alloc hb1.out (pb l.length A2 es.length c2 bt (fv 24 #[PP b]) (fv 25 #[]) (fv 26 #[]) (fv 27 #[PP b])))
  have hpp : Aside0 (w.heap.size ≤ w1.heap.size) := ⟨hb1.out.size⟩
  replace hE2 := Aside0.mk (Kd.C_alloc hE2.out (pb l.length A2 es.length c2 bt (fv 24 #[PP b]) (fv 25 #[]) (fv 26 #[]) (fv 27 #[PP b])))
  replace hC2 := Aside0.mk (hC2.out.below (below_alloc (Below.refl _ _) (pb l.length A2 es.length c2 bt (fv 24 #[PP b]) (fv 25 #[]) (fv 26 #[]) (fv 27 #[PP b]))))
  generalize w1.alloc (pb l.length A2 es.length c2 bt (fv 24 #[PP b]) (fv 25 #[]) (fv 26 #[]) (fv 27 #[PP b])) = W at *
  generalize w1.heap.size = pp at *
  clear hb1
  have p0 := (blk_cell hX.out 0).trans (show _ = some (.int .i64 (l.length : Int)) from rfl)
  have p1 := (blk_cell hX.out 1).trans (show _ = some (.slice A2 es.length c2) from rfl)
  have p2 := (blk_cell hX.out 2).trans (show _ = some (uv bt) from rfl)
  have p3 := (blk_cell hX.out 3).trans (show _ = some (fv 24 #[PP b]) from rfl)
  have p4 := (blk_cell hX.out 4).trans (show _ = some (fv 25 #[]) from rfl)
  have p5 := (blk_cell hX.out 5).trans (show _ = some (fv 26 #[]) from rfl)
  have p6 := (blk_cell hX.out 6).trans (show _ = some (fv 27 #[PP b]) from rfl)
  go_upto_region 5 with (go_at_call 9; (with_reducible refine (hbad _ _ _ _ _ hE2).out.mono ?_); rintro e w2 ⟨rfl, hb2⟩; replace hb2 := Aside0.mk hb2)
  have hB2 := Aside0.mk (below_step hB.out hb2.out)
  replace hX := Aside0.mk (blk_below hX.out hb2.out)
  clear p0 p1 p2 p3 p4 p5 p6 hb2 hB
  have p0 := (blk_cell hX.out 0).trans (show _ = some (.int .i64 (l.length : Int)) from rfl)
  have p1 := (blk_cell hX.out 1).trans (show _ = some (.slice A2 es.length c2) from rfl)
  have p2 := (blk_cell hX.out 2).trans (show _ = some (uv bt) from rfl)
  have p3 := (blk_cell hX.out 3).trans (show _ = some (fv 24 #[PP b]) from rfl)
  have p4 := (blk_cell hX.out 4).trans (show _ = some (fv 25 #[]) from rfl)
  have p5 := (blk_cell hX.out 5).trans (show _ = some (fv 26 #[]) from rfl)
  have p6 := (blk_cell hX.out 6).trans (show _ = some (fv 27 #[PP b]) from rfl)
  have f6 := blk_frozen hX.out 6
  go_upto_region 9 with (go_at_call 11; (with_reducible refine (hed _ hB2.out).out.mono ?_); rintro e w3 ⟨rfl, rfl⟩)
  have hX6 := Aside0.mk (blk_put hX.out 6 .nilFunc rfl)
  have hB6 : Aside0 (Below w.heap.size w (w2.setCell ⟨pp, 6, none⟩ .nilFunc)) := ⟨below_set hB2.out hpp.out⟩
  generalize w2.setCell ⟨pp, 6, none⟩ .nilFunc = w6 at *
  clear p0 p1 p2 p3 p4 p5 p6 f6 hX hB2
  have p0 := (blk_cell hX6.out 0).trans (show _ = some (.int .i64 (l.length : Int)) from rfl)
  have p1 := (blk_cell hX6.out 1).trans (show _ = some (.slice A2 es.length c2) from rfl)
  have p2 := (blk_cell hX6.out 2).trans (show _ = some (uv bt) from rfl)
  have p3 := (blk_cell hX6.out 3).trans (show _ = some (fv 24 #[PP b]) from rfl)
  have p4 := (blk_cell hX6.out 4).trans (show _ = some (fv 25 #[]) from rfl)
  have p5 := (blk_cell hX6.out 5).trans (show _ = some (fv 26 #[]) from rfl)
  have p6 := (blk_cell hX6.out 6).trans (show _ = some .nilFunc from rfl)
  go_upto_region 10 with (go_at_call 9; (with_reducible refine (hnil _ _ _ _ _).out.mono ?_); rintro e w7 ⟨rfl, hb7⟩; replace hb7 := Aside0.mk (below_step hB6.out hb7))
  clear p0 p1 p2 p3 p4 p5 p6 hX6 hB6
  have hN7 := Aside0.mk (Kd.C_below hNn.out hb7.out)
  have hE7 := Aside0.mk (Kd.C_below hE.out hb7.out)
  go_upto_region 11 with (go_at_call 10; (with_reducible refine (problemB hN7 hE7 (by omega)).mono ?_); rintro e w8 ⟨A4, c4, b4, bt4, rfl, hbt4, hE4, hC4, hb8⟩; replace hb8 := Aside0.mk (below_step hb7.out hb8.out))
  have hX8 := Aside0.mk (blk_new w8 (pb l.length A4 es.length c4 bt4 (fv 24 #[PP b4]) (fv 25 #[]) (fv 26 #[]) (fv 27 #[PP b4])))
  have hB8 := Aside0.mk (below_alloc hb8.out (pb l.length A4 es.length c4 bt4 (fv 24 #[PP b4]) (fv 25 #[]) (fv 26 #[]) (fv 27 #[PP b4])))
  have hq8 : Aside0 (w.heap.size ≤ w8.heap.size) := ⟨hb8.out.size⟩
  generalize w8.alloc (pb l.length A4 es.length c4 bt4 (fv 24 #[PP b4]) (fv 25 #[]) (fv 26 #[]) (fv 27 #[PP b4])) = w9 at *
  generalize w8.heap.size = pq at *
  have r0 := (blk_cell hX8.out 0).trans (show _ = some (.int .i64 (l.length : Int)) from rfl)
  have f0 := blk_frozen hX8.out 0
  go_upto_region 12 with (fail)
  have hX9 := Aside0.mk (blk_put hX8.out 0 (.int .i64 (-1)) rfl)
  have hB9 : Aside0 (Below w.heap.size w (w9.setCell ⟨pq, 0, none⟩ (.int .i64 (-1)))) := ⟨below_set hB8.out hq8.out⟩
  generalize w9.setCell ⟨pq, 0, none⟩ (.int .i64 (-1)) = wa at *
  clear r0 f0 hX8 hB8
  have p0 := (blk_cell hX9.out 0).trans (show _ = some (.int .i64 (-1)) from rfl)
  have p1 := (blk_cell hX9.out 1).trans (show _ = some (.slice A4 es.length c4) from rfl)
  have p2 := (blk_cell hX9.out 2).trans (show _ = some (uv bt4) from rfl)
  have p3 := (blk_cell hX9.out 3).trans (show _ = some (fv 24 #[PP b4]) from rfl)
  have p4 := (blk_cell hX9.out 4).trans (show _ = some (fv 25 #[]) from rfl)
  have p5 := (blk_cell hX9.out 5).trans (show _ = some (fv 26 #[]) from rfl)
  have p6 := (blk_cell hX9.out 6).trans (show _ = some (fv 27 #[PP b4]) from rfl)
  go_wp2_with (first | (go_at_call 9; (with_reducible refine (hneg _ _ _ _ _ _ _ _).out.mono ?_); rintro e wb ⟨rfl, hbb⟩; replace hbb := Aside0.mk (below_step hB9.out hbb)) | (go_at_call 8; (with_reducible refine (awake_ _).mono ?_); rintro e wc ⟨rfl, hbc⟩; replace hbc := Aside0.mk hbc))
  go_ret
  exact ⟨rfl, below_step hbb.out hbc.out⟩
set_option maxHeartbeats 16000000 in
set_option maxRecDepth 100000 in
theorem refuses_none {w : World} (A : Option Addr) (l : List Nd) (c : Nat) (hNn : Aside0 (kN.C w A l.length l)) (A1 : Option Addr) (es : List (Int × Int)) (c1 : Nat) (hE : Aside0 (kE.C w A1 es.length es)) (h1 : l.length ≤ 64) (h2 : es.length ≤ 256) (most : Int) (m0 : -9223372036854775808 ≤ most) (m1 : most ≤ 9223372036854775807) (hok : allOk l.length es = true) (hm1 : most < 1) :
    Calls Try.prog 7 #[.slice A l.length c, .slice A1 es.length c1, .int .i64 most] w (RetB (.bool true) w) := by
  have hed : ∀ W, Below w.heap.size w W → Aside0 (Calls Try.prog 11 #[.slice A1 es.length c1, .int .i64 (l.length : Int)] W fun e w' => e = .returned (.bool true) ∧ W = w') := fun W b => ⟨by have := edges_ (w := W) (A := A1) (c := c1) (es := es) l.length ⟨Kd.C_below hE.out b⟩; rw [hok] at this; exact this⟩
  have hbad := fun (W : World) (bt : V) (A2 : Option Addr) (c2 bp : Nat) (hc : Aside0 (kE.C W A2 es.length es)) => Aside0.mk (solve_bad (bt := bt) (c := c2) (bp := bp) hc h1 most (.inr hm1))
  replace hok := Aside0.mk hok
  have hnil := fun (W : World) (A2 : Option Addr) (c2 : Nat) (bt : V) (b : Nat) => Aside0.mk (solve_no (w := W) (l.length : Int) A2 es.length c2 bt (fv 24 #[PP b]) (fv 25 #[]) (fv 26 #[]) .nilFunc 1048576 false (.inl rfl) (fun W' _ => ⟨may_nil l.length (by omega) A2 es.length c2 bt 24 25 26 #[PP b] #[] #[]⟩))
  have hneg := fun (W : World) (A2 : Option Addr) (c2 : Nat) (bt : V) (f1 f2 f3 f4 : Value) => Aside0.mk (solve_no (w := W) (-1) A2 es.length c2 bt f1 f2 f3 f4 1048576 false (.inl rfl) (fun W' _ => ⟨may_neg (-1) (by omega) A2 es.length c2 bt f1 f2 f3 f4⟩))
  have hw1 : IntKind.i64.wrap ((l.length : Int) + es.length) = (l.length : Int) + es.length := IntWalk.i64_in _ (by omega)
  have hw2 : IntKind.i64.wrap ((l.length : Int) + es.length + 1) = (l.length : Int) + es.length + 1 := IntWalk.i64_in _ (by omega)
  have hw3 : IntKind.i64.wrap (65 * ((l.length : Int) + es.length + 1)) = 65 * ((l.length : Int) + es.length + 1) := IntWalk.i64_in _ (by omega)
  go_enter Try.func7, Try.ntmps7
  go_upto_region 4 with (go_at_call 10; (with_reducible refine (problemB hNn hE (by omega)).mono ?_); rintro e w1 ⟨A2, c2, b, bt, rfl, hbt, hE2, hC2, hb1⟩)
  have hX := Aside0.mk (blk_new w1 (pb l.length A2 es.length c2 bt (fv 24 #[PP b]) (fv 25 #[]) (fv 26 #[]) (fv 27 #[PP b])))
  have hB := Aside0.mk (below_alloc hb1.out (pb l.length A2 es.length c2 bt (fv 24 #[PP b]) (fv 25 #[]) (fv 26 #[]) (fv 27 #[PP b])))
  have hpp : Aside0 (w.heap.size ≤ w1.heap.size) := ⟨hb1.out.size⟩
  replace hE2 := Aside0.mk (Kd.C_alloc hE2.out (pb l.length A2 es.length c2 bt (fv 24 #[PP b]) (fv 25 #[]) (fv 26 #[]) (fv 27 #[PP b])))
  replace hC2 := Aside0.mk (hC2.out.below (below_alloc (Below.refl _ _) (pb l.length A2 es.length c2 bt (fv 24 #[PP b]) (fv 25 #[]) (fv 26 #[]) (fv 27 #[PP b]))))
  generalize w1.alloc (pb l.length A2 es.length c2 bt (fv 24 #[PP b]) (fv 25 #[]) (fv 26 #[]) (fv 27 #[PP b])) = W at *
  generalize w1.heap.size = pp at *
  clear hb1
  have p0 := (blk_cell hX.out 0).trans (show _ = some (.int .i64 (l.length : Int)) from rfl)
  have p1 := (blk_cell hX.out 1).trans (show _ = some (.slice A2 es.length c2) from rfl)
  have p2 := (blk_cell hX.out 2).trans (show _ = some (uv bt) from rfl)
  have p3 := (blk_cell hX.out 3).trans (show _ = some (fv 24 #[PP b]) from rfl)
  have p4 := (blk_cell hX.out 4).trans (show _ = some (fv 25 #[]) from rfl)
  have p5 := (blk_cell hX.out 5).trans (show _ = some (fv 26 #[]) from rfl)
  have p6 := (blk_cell hX.out 6).trans (show _ = some (fv 27 #[PP b]) from rfl)
  go_upto_region 5 with (go_at_call 9; (with_reducible refine (hbad _ _ _ _ _ hE2).out.mono ?_); rintro e w2 ⟨rfl, hb2⟩; replace hb2 := Aside0.mk hb2)
  have hB2 := Aside0.mk (below_step hB.out hb2.out)
  replace hX := Aside0.mk (blk_below hX.out hb2.out)
  clear p0 p1 p2 p3 p4 p5 p6 hb2 hB
  have p0 := (blk_cell hX.out 0).trans (show _ = some (.int .i64 (l.length : Int)) from rfl)
  have p1 := (blk_cell hX.out 1).trans (show _ = some (.slice A2 es.length c2) from rfl)
  have p2 := (blk_cell hX.out 2).trans (show _ = some (uv bt) from rfl)
  have p3 := (blk_cell hX.out 3).trans (show _ = some (fv 24 #[PP b]) from rfl)
  have p4 := (blk_cell hX.out 4).trans (show _ = some (fv 25 #[]) from rfl)
  have p5 := (blk_cell hX.out 5).trans (show _ = some (fv 26 #[]) from rfl)
  have p6 := (blk_cell hX.out 6).trans (show _ = some (fv 27 #[PP b]) from rfl)
  have f6 := blk_frozen hX.out 6
  go_upto_region 9 with (go_at_call 11; (with_reducible refine (hed _ hB2.out).out.mono ?_); rintro e w3 ⟨rfl, rfl⟩)
  have hX6 := Aside0.mk (blk_put hX.out 6 .nilFunc rfl)
  have hB6 : Aside0 (Below w.heap.size w (w2.setCell ⟨pp, 6, none⟩ .nilFunc)) := ⟨below_set hB2.out hpp.out⟩
  generalize w2.setCell ⟨pp, 6, none⟩ .nilFunc = w6 at *
  clear p0 p1 p2 p3 p4 p5 p6 f6 hX hB2
  have p0 := (blk_cell hX6.out 0).trans (show _ = some (.int .i64 (l.length : Int)) from rfl)
  have p1 := (blk_cell hX6.out 1).trans (show _ = some (.slice A2 es.length c2) from rfl)
  have p2 := (blk_cell hX6.out 2).trans (show _ = some (uv bt) from rfl)
  have p3 := (blk_cell hX6.out 3).trans (show _ = some (fv 24 #[PP b]) from rfl)
  have p4 := (blk_cell hX6.out 4).trans (show _ = some (fv 25 #[]) from rfl)
  have p5 := (blk_cell hX6.out 5).trans (show _ = some (fv 26 #[]) from rfl)
  have p6 := (blk_cell hX6.out 6).trans (show _ = some .nilFunc from rfl)
  go_upto_region 10 with (go_at_call 9; (with_reducible refine (hnil _ _ _ _ _).out.mono ?_); rintro e w7 ⟨rfl, hb7⟩; replace hb7 := Aside0.mk (below_step hB6.out hb7))
  clear p0 p1 p2 p3 p4 p5 p6 hX6 hB6
  have hN7 := Aside0.mk (Kd.C_below hNn.out hb7.out)
  have hE7 := Aside0.mk (Kd.C_below hE.out hb7.out)
  go_upto_region 11 with (go_at_call 10; (with_reducible refine (problemB hN7 hE7 (by omega)).mono ?_); rintro e w8 ⟨A4, c4, b4, bt4, rfl, hbt4, hE4, hC4, hb8⟩; replace hb8 := Aside0.mk (below_step hb7.out hb8.out))
  have hX8 := Aside0.mk (blk_new w8 (pb l.length A4 es.length c4 bt4 (fv 24 #[PP b4]) (fv 25 #[]) (fv 26 #[]) (fv 27 #[PP b4])))
  have hB8 := Aside0.mk (below_alloc hb8.out (pb l.length A4 es.length c4 bt4 (fv 24 #[PP b4]) (fv 25 #[]) (fv 26 #[]) (fv 27 #[PP b4])))
  have hq8 : Aside0 (w.heap.size ≤ w8.heap.size) := ⟨hb8.out.size⟩
  generalize w8.alloc (pb l.length A4 es.length c4 bt4 (fv 24 #[PP b4]) (fv 25 #[]) (fv 26 #[]) (fv 27 #[PP b4])) = w9 at *
  generalize w8.heap.size = pq at *
  have r0 := (blk_cell hX8.out 0).trans (show _ = some (.int .i64 (l.length : Int)) from rfl)
  have f0 := blk_frozen hX8.out 0
  go_upto_region 12 with (fail)
  have hX9 := Aside0.mk (blk_put hX8.out 0 (.int .i64 (-1)) rfl)
  have hB9 : Aside0 (Below w.heap.size w (w9.setCell ⟨pq, 0, none⟩ (.int .i64 (-1)))) := ⟨below_set hB8.out hq8.out⟩
  generalize w9.setCell ⟨pq, 0, none⟩ (.int .i64 (-1)) = wa at *
  clear r0 f0 hX8 hB8
  have p0 := (blk_cell hX9.out 0).trans (show _ = some (.int .i64 (-1)) from rfl)
  have p1 := (blk_cell hX9.out 1).trans (show _ = some (.slice A4 es.length c4) from rfl)
  have p2 := (blk_cell hX9.out 2).trans (show _ = some (uv bt4) from rfl)
  have p3 := (blk_cell hX9.out 3).trans (show _ = some (fv 24 #[PP b4]) from rfl)
  have p4 := (blk_cell hX9.out 4).trans (show _ = some (fv 25 #[]) from rfl)
  have p5 := (blk_cell hX9.out 5).trans (show _ = some (fv 26 #[]) from rfl)
  have p6 := (blk_cell hX9.out 6).trans (show _ = some (fv 27 #[PP b4]) from rfl)
  go_wp2_with (first | (go_at_call 9; (with_reducible refine (hneg _ _ _ _ _ _ _ _).out.mono ?_); rintro e wb ⟨rfl, hbb⟩; replace hbb := Aside0.mk (below_step hB9.out hbb)) | (go_at_call 8; (with_reducible refine (awake_ _).mono ?_); rintro e wc ⟨rfl, hbc⟩; replace hbc := Aside0.mk hbc))
  go_ret
  exact ⟨rfl, below_step hbb.out hbc.out⟩
set_option maxHeartbeats 16000000 in
set_option maxRecDepth 100000 in
theorem refuses_good {w : World} (A : Option Addr) (l : List Nd) (c : Nat) (hNn : Aside0 (kN.C w A l.length l)) (A1 : Option Addr) (es : List (Int × Int)) (c1 : Nat) (hE : Aside0 (kE.C w A1 es.length es)) (h1 : l.length ≤ 64) (h2 : es.length ≤ 256) (most : Int) (m0 : -9223372036854775808 ≤ most) (m1 : most ≤ 9223372036854775807) (hok : allOk l.length es = true) (hm1 : 1 ≤ most) :
    Calls Try.prog 7 #[.slice A l.length c, .slice A1 es.length c1, .int .i64 most] w (RetB (.bool true) w) := by
  have hed : ∀ W, Below w.heap.size w W → Aside0 (Calls Try.prog 11 #[.slice A1 es.length c1, .int .i64 (l.length : Int)] W fun e w' => e = .returned (.bool true) ∧ W = w') := fun W b => ⟨by have := edges_ (w := W) (A := A1) (c := c1) (es := es) l.length ⟨Kd.C_below hE.out b⟩; rw [hok] at this; exact this⟩
  have hgo := fun (W : World) (bt : V) (A2 : Option Addr) (c2 bp : Nat) (hc : Aside0 (kE.C W A2 es.length es)) (hC : Aside0 (Cap W bp l)) (hbt : Aside0 (bt = (may l (nE es)).bot)) => Aside0.mk (solve_any (c := c2) hc hC h1 h2 hok most hm1 hbt)
  replace hok := Aside0.mk hok
  have hnil := fun (W : World) (A2 : Option Addr) (c2 : Nat) (bt : V) (b : Nat) => Aside0.mk (solve_no (w := W) (l.length : Int) A2 es.length c2 bt (fv 24 #[PP b]) (fv 25 #[]) (fv 26 #[]) .nilFunc 1048576 false (.inl rfl) (fun W' _ => ⟨may_nil l.length (by omega) A2 es.length c2 bt 24 25 26 #[PP b] #[] #[]⟩))
  have hneg := fun (W : World) (A2 : Option Addr) (c2 : Nat) (bt : V) (f1 f2 f3 f4 : Value) => Aside0.mk (solve_no (w := W) (-1) A2 es.length c2 bt f1 f2 f3 f4 1048576 false (.inl rfl) (fun W' _ => ⟨may_neg (-1) (by omega) A2 es.length c2 bt f1 f2 f3 f4⟩))
  have hw1 : IntKind.i64.wrap ((l.length : Int) + es.length) = (l.length : Int) + es.length := IntWalk.i64_in _ (by omega)
  have hw2 : IntKind.i64.wrap ((l.length : Int) + es.length + 1) = (l.length : Int) + es.length + 1 := IntWalk.i64_in _ (by omega)
  have hw3 : IntKind.i64.wrap (65 * ((l.length : Int) + es.length + 1)) = 65 * ((l.length : Int) + es.length + 1) := IntWalk.i64_in _ (by omega)
  go_enter Try.func7, Try.ntmps7
  go_upto_region 4 with (go_at_call 10; (with_reducible refine (problemB hNn hE (by omega)).mono ?_); rintro e w1 ⟨A2, c2, b, bt, rfl, hbt, hE2, hC2, hb1⟩)
  have hX := Aside0.mk (blk_new w1 (pb l.length A2 es.length c2 bt (fv 24 #[PP b]) (fv 25 #[]) (fv 26 #[]) (fv 27 #[PP b])))
  have hB := Aside0.mk (below_alloc hb1.out (pb l.length A2 es.length c2 bt (fv 24 #[PP b]) (fv 25 #[]) (fv 26 #[]) (fv 27 #[PP b])))
  have hpp : Aside0 (w.heap.size ≤ w1.heap.size) := ⟨hb1.out.size⟩
  replace hE2 := Aside0.mk (Kd.C_alloc hE2.out (pb l.length A2 es.length c2 bt (fv 24 #[PP b]) (fv 25 #[]) (fv 26 #[]) (fv 27 #[PP b])))
  replace hC2 := Aside0.mk (hC2.out.below (below_alloc (Below.refl _ _) (pb l.length A2 es.length c2 bt (fv 24 #[PP b]) (fv 25 #[]) (fv 26 #[]) (fv 27 #[PP b]))))
  generalize w1.alloc (pb l.length A2 es.length c2 bt (fv 24 #[PP b]) (fv 25 #[]) (fv 26 #[]) (fv 27 #[PP b])) = W at *
  generalize w1.heap.size = pp at *
  clear hb1
  have p0 := (blk_cell hX.out 0).trans (show _ = some (.int .i64 (l.length : Int)) from rfl)
  have p1 := (blk_cell hX.out 1).trans (show _ = some (.slice A2 es.length c2) from rfl)
  have p2 := (blk_cell hX.out 2).trans (show _ = some (uv bt) from rfl)
  have p3 := (blk_cell hX.out 3).trans (show _ = some (fv 24 #[PP b]) from rfl)
  have p4 := (blk_cell hX.out 4).trans (show _ = some (fv 25 #[]) from rfl)
  have p5 := (blk_cell hX.out 5).trans (show _ = some (fv 26 #[]) from rfl)
  have p6 := (blk_cell hX.out 6).trans (show _ = some (fv 27 #[PP b]) from rfl)
  go_upto_region 5 with (go_at_call 9; (with_reducible refine (hgo _ _ _ _ _ hE2 hC2 hbt).out.mono ?_); rintro e w2 ⟨v1, v2, cd, rfl, hcd, hb2⟩; replace hcd := Aside0.mk hcd; replace hb2 := Aside0.mk hb2)
  have hB2 := Aside0.mk (below_step hB.out hb2.out)
  replace hX := Aside0.mk (blk_below hX.out hb2.out)
  clear p0 p1 p2 p3 p4 p5 p6 hb2 hB
  rcases hcd.out with rfl | ⟨rfl, hm65⟩
  · clear hcd
    by_cases hm65 : 65 * ((l.length : Int) + es.length + 1) ≤ most
    · have p0 := (blk_cell hX.out 0).trans (show _ = some (.int .i64 (l.length : Int)) from rfl)
      have p1 := (blk_cell hX.out 1).trans (show _ = some (.slice A2 es.length c2) from rfl)
      have p2 := (blk_cell hX.out 2).trans (show _ = some (uv bt) from rfl)
      have p3 := (blk_cell hX.out 3).trans (show _ = some (fv 24 #[PP b]) from rfl)
      have p4 := (blk_cell hX.out 4).trans (show _ = some (fv 25 #[]) from rfl)
      have p5 := (blk_cell hX.out 5).trans (show _ = some (fv 26 #[]) from rfl)
      have p6 := (blk_cell hX.out 6).trans (show _ = some (fv 27 #[PP b]) from rfl)
      have f6 := blk_frozen hX.out 6
      go_upto_region 9 with (go_at_call 11; (with_reducible refine (hed _ hB2.out).out.mono ?_); rintro e w3 ⟨rfl, rfl⟩)
      have hX6 := Aside0.mk (blk_put hX.out 6 .nilFunc rfl)
      have hB6 : Aside0 (Below w.heap.size w (w2.setCell ⟨pp, 6, none⟩ .nilFunc)) := ⟨below_set hB2.out hpp.out⟩
      generalize w2.setCell ⟨pp, 6, none⟩ .nilFunc = w6 at *
      clear p0 p1 p2 p3 p4 p5 p6 f6 hX hB2
      have p0 := (blk_cell hX6.out 0).trans (show _ = some (.int .i64 (l.length : Int)) from rfl)
      have p1 := (blk_cell hX6.out 1).trans (show _ = some (.slice A2 es.length c2) from rfl)
      have p2 := (blk_cell hX6.out 2).trans (show _ = some (uv bt) from rfl)
      have p3 := (blk_cell hX6.out 3).trans (show _ = some (fv 24 #[PP b]) from rfl)
      have p4 := (blk_cell hX6.out 4).trans (show _ = some (fv 25 #[]) from rfl)
      have p5 := (blk_cell hX6.out 5).trans (show _ = some (fv 26 #[]) from rfl)
      have p6 := (blk_cell hX6.out 6).trans (show _ = some .nilFunc from rfl)
      go_upto_region 10 with (go_at_call 9; (with_reducible refine (hnil _ _ _ _ _).out.mono ?_); rintro e w7 ⟨rfl, hb7⟩; replace hb7 := Aside0.mk (below_step hB6.out hb7))
      clear p0 p1 p2 p3 p4 p5 p6 hX6 hB6
      have hN7 := Aside0.mk (Kd.C_below hNn.out hb7.out)
      have hE7 := Aside0.mk (Kd.C_below hE.out hb7.out)
      go_upto_region 11 with (go_at_call 10; (with_reducible refine (problemB hN7 hE7 (by omega)).mono ?_); rintro e w8 ⟨A4, c4, b4, bt4, rfl, hbt4, hE4, hC4, hb8⟩; replace hb8 := Aside0.mk (below_step hb7.out hb8.out))
      have hX8 := Aside0.mk (blk_new w8 (pb l.length A4 es.length c4 bt4 (fv 24 #[PP b4]) (fv 25 #[]) (fv 26 #[]) (fv 27 #[PP b4])))
      have hB8 := Aside0.mk (below_alloc hb8.out (pb l.length A4 es.length c4 bt4 (fv 24 #[PP b4]) (fv 25 #[]) (fv 26 #[]) (fv 27 #[PP b4])))
      have hq8 : Aside0 (w.heap.size ≤ w8.heap.size) := ⟨hb8.out.size⟩
      generalize w8.alloc (pb l.length A4 es.length c4 bt4 (fv 24 #[PP b4]) (fv 25 #[]) (fv 26 #[]) (fv 27 #[PP b4])) = w9 at *
      generalize w8.heap.size = pq at *
      have r0 := (blk_cell hX8.out 0).trans (show _ = some (.int .i64 (l.length : Int)) from rfl)
      have f0 := blk_frozen hX8.out 0
      go_upto_region 12 with (fail)
      have hX9 := Aside0.mk (blk_put hX8.out 0 (.int .i64 (-1)) rfl)
      have hB9 : Aside0 (Below w.heap.size w (w9.setCell ⟨pq, 0, none⟩ (.int .i64 (-1)))) := ⟨below_set hB8.out hq8.out⟩
      generalize w9.setCell ⟨pq, 0, none⟩ (.int .i64 (-1)) = wa at *
      clear r0 f0 hX8 hB8
      have p0 := (blk_cell hX9.out 0).trans (show _ = some (.int .i64 (-1)) from rfl)
      have p1 := (blk_cell hX9.out 1).trans (show _ = some (.slice A4 es.length c4) from rfl)
      have p2 := (blk_cell hX9.out 2).trans (show _ = some (uv bt4) from rfl)
      have p3 := (blk_cell hX9.out 3).trans (show _ = some (fv 24 #[PP b4]) from rfl)
      have p4 := (blk_cell hX9.out 4).trans (show _ = some (fv 25 #[]) from rfl)
      have p5 := (blk_cell hX9.out 5).trans (show _ = some (fv 26 #[]) from rfl)
      have p6 := (blk_cell hX9.out 6).trans (show _ = some (fv 27 #[PP b4]) from rfl)
      go_wp2_with (first | (go_at_call 9; (with_reducible refine (hneg _ _ _ _ _ _ _ _).out.mono ?_); rintro e wb ⟨rfl, hbb⟩; replace hbb := Aside0.mk (below_step hB9.out hbb)) | (go_at_call 8; (with_reducible refine (awake_ _).mono ?_); rintro e wc ⟨rfl, hbc⟩; replace hbc := Aside0.mk hbc))
      go_ret
      exact ⟨rfl, below_step hbb.out hbc.out⟩
    · have p0 := (blk_cell hX.out 0).trans (show _ = some (.int .i64 (l.length : Int)) from rfl)
      have p1 := (blk_cell hX.out 1).trans (show _ = some (.slice A2 es.length c2) from rfl)
      have p2 := (blk_cell hX.out 2).trans (show _ = some (uv bt) from rfl)
      have p3 := (blk_cell hX.out 3).trans (show _ = some (fv 24 #[PP b]) from rfl)
      have p4 := (blk_cell hX.out 4).trans (show _ = some (fv 25 #[]) from rfl)
      have p5 := (blk_cell hX.out 5).trans (show _ = some (fv 26 #[]) from rfl)
      have p6 := (blk_cell hX.out 6).trans (show _ = some (fv 27 #[PP b]) from rfl)
      have f6 := blk_frozen hX.out 6
      go_upto_region 9 with (go_at_call 11; (with_reducible refine (hed _ hB2.out).out.mono ?_); rintro e w3 ⟨rfl, rfl⟩)
      have hX6 := Aside0.mk (blk_put hX.out 6 .nilFunc rfl)
      have hB6 : Aside0 (Below w.heap.size w (w2.setCell ⟨pp, 6, none⟩ .nilFunc)) := ⟨below_set hB2.out hpp.out⟩
      generalize w2.setCell ⟨pp, 6, none⟩ .nilFunc = w6 at *
      clear p0 p1 p2 p3 p4 p5 p6 f6 hX hB2
      have p0 := (blk_cell hX6.out 0).trans (show _ = some (.int .i64 (l.length : Int)) from rfl)
      have p1 := (blk_cell hX6.out 1).trans (show _ = some (.slice A2 es.length c2) from rfl)
      have p2 := (blk_cell hX6.out 2).trans (show _ = some (uv bt) from rfl)
      have p3 := (blk_cell hX6.out 3).trans (show _ = some (fv 24 #[PP b]) from rfl)
      have p4 := (blk_cell hX6.out 4).trans (show _ = some (fv 25 #[]) from rfl)
      have p5 := (blk_cell hX6.out 5).trans (show _ = some (fv 26 #[]) from rfl)
      have p6 := (blk_cell hX6.out 6).trans (show _ = some .nilFunc from rfl)
      go_upto_region 10 with (go_at_call 9; (with_reducible refine (hnil _ _ _ _ _).out.mono ?_); rintro e w7 ⟨rfl, hb7⟩; replace hb7 := Aside0.mk (below_step hB6.out hb7))
      clear p0 p1 p2 p3 p4 p5 p6 hX6 hB6
      have hN7 := Aside0.mk (Kd.C_below hNn.out hb7.out)
      have hE7 := Aside0.mk (Kd.C_below hE.out hb7.out)
      go_upto_region 11 with (go_at_call 10; (with_reducible refine (problemB hN7 hE7 (by omega)).mono ?_); rintro e w8 ⟨A4, c4, b4, bt4, rfl, hbt4, hE4, hC4, hb8⟩; replace hb8 := Aside0.mk (below_step hb7.out hb8.out))
      have hX8 := Aside0.mk (blk_new w8 (pb l.length A4 es.length c4 bt4 (fv 24 #[PP b4]) (fv 25 #[]) (fv 26 #[]) (fv 27 #[PP b4])))
      have hB8 := Aside0.mk (below_alloc hb8.out (pb l.length A4 es.length c4 bt4 (fv 24 #[PP b4]) (fv 25 #[]) (fv 26 #[]) (fv 27 #[PP b4])))
      have hq8 : Aside0 (w.heap.size ≤ w8.heap.size) := ⟨hb8.out.size⟩
      generalize w8.alloc (pb l.length A4 es.length c4 bt4 (fv 24 #[PP b4]) (fv 25 #[]) (fv 26 #[]) (fv 27 #[PP b4])) = w9 at *
      generalize w8.heap.size = pq at *
      have r0 := (blk_cell hX8.out 0).trans (show _ = some (.int .i64 (l.length : Int)) from rfl)
      have f0 := blk_frozen hX8.out 0
      go_upto_region 12 with (fail)
      have hX9 := Aside0.mk (blk_put hX8.out 0 (.int .i64 (-1)) rfl)
      have hB9 : Aside0 (Below w.heap.size w (w9.setCell ⟨pq, 0, none⟩ (.int .i64 (-1)))) := ⟨below_set hB8.out hq8.out⟩
      generalize w9.setCell ⟨pq, 0, none⟩ (.int .i64 (-1)) = wa at *
      clear r0 f0 hX8 hB8
      have p0 := (blk_cell hX9.out 0).trans (show _ = some (.int .i64 (-1)) from rfl)
      have p1 := (blk_cell hX9.out 1).trans (show _ = some (.slice A4 es.length c4) from rfl)
      have p2 := (blk_cell hX9.out 2).trans (show _ = some (uv bt4) from rfl)
      have p3 := (blk_cell hX9.out 3).trans (show _ = some (fv 24 #[PP b4]) from rfl)
      have p4 := (blk_cell hX9.out 4).trans (show _ = some (fv 25 #[]) from rfl)
      have p5 := (blk_cell hX9.out 5).trans (show _ = some (fv 26 #[]) from rfl)
      have p6 := (blk_cell hX9.out 6).trans (show _ = some (fv 27 #[PP b4]) from rfl)
      go_wp2_with (first | (go_at_call 9; (with_reducible refine (hneg _ _ _ _ _ _ _ _).out.mono ?_); rintro e wb ⟨rfl, hbb⟩; replace hbb := Aside0.mk (below_step hB9.out hbb)) | (go_at_call 8; (with_reducible refine (awake_ _).mono ?_); rintro e wc ⟨rfl, hbc⟩; replace hbc := Aside0.mk hbc))
      go_ret
      exact ⟨rfl, below_step hbb.out hbc.out⟩
  · clear hcd
    have p0 := (blk_cell hX.out 0).trans (show _ = some (.int .i64 (l.length : Int)) from rfl)
    have p1 := (blk_cell hX.out 1).trans (show _ = some (.slice A2 es.length c2) from rfl)
    have p2 := (blk_cell hX.out 2).trans (show _ = some (uv bt) from rfl)
    have p3 := (blk_cell hX.out 3).trans (show _ = some (fv 24 #[PP b]) from rfl)
    have p4 := (blk_cell hX.out 4).trans (show _ = some (fv 25 #[]) from rfl)
    have p5 := (blk_cell hX.out 5).trans (show _ = some (fv 26 #[]) from rfl)
    have p6 := (blk_cell hX.out 6).trans (show _ = some (fv 27 #[PP b]) from rfl)
    have f6 := blk_frozen hX.out 6
    go_upto_region 9 with (go_at_call 11; (with_reducible refine (hed _ hB2.out).out.mono ?_); rintro e w3 ⟨rfl, rfl⟩)
    have hX6 := Aside0.mk (blk_put hX.out 6 .nilFunc rfl)
    have hB6 : Aside0 (Below w.heap.size w (w2.setCell ⟨pp, 6, none⟩ .nilFunc)) := ⟨below_set hB2.out hpp.out⟩
    generalize w2.setCell ⟨pp, 6, none⟩ .nilFunc = w6 at *
    clear p0 p1 p2 p3 p4 p5 p6 f6 hX hB2
    have p0 := (blk_cell hX6.out 0).trans (show _ = some (.int .i64 (l.length : Int)) from rfl)
    have p1 := (blk_cell hX6.out 1).trans (show _ = some (.slice A2 es.length c2) from rfl)
    have p2 := (blk_cell hX6.out 2).trans (show _ = some (uv bt) from rfl)
    have p3 := (blk_cell hX6.out 3).trans (show _ = some (fv 24 #[PP b]) from rfl)
    have p4 := (blk_cell hX6.out 4).trans (show _ = some (fv 25 #[]) from rfl)
    have p5 := (blk_cell hX6.out 5).trans (show _ = some (fv 26 #[]) from rfl)
    have p6 := (blk_cell hX6.out 6).trans (show _ = some .nilFunc from rfl)
    go_upto_region 10 with (go_at_call 9; (with_reducible refine (hnil _ _ _ _ _).out.mono ?_); rintro e w7 ⟨rfl, hb7⟩; replace hb7 := Aside0.mk (below_step hB6.out hb7))
    clear p0 p1 p2 p3 p4 p5 p6 hX6 hB6
    have hN7 := Aside0.mk (Kd.C_below hNn.out hb7.out)
    have hE7 := Aside0.mk (Kd.C_below hE.out hb7.out)
    go_upto_region 11 with (go_at_call 10; (with_reducible refine (problemB hN7 hE7 (by omega)).mono ?_); rintro e w8 ⟨A4, c4, b4, bt4, rfl, hbt4, hE4, hC4, hb8⟩; replace hb8 := Aside0.mk (below_step hb7.out hb8.out))
    have hX8 := Aside0.mk (blk_new w8 (pb l.length A4 es.length c4 bt4 (fv 24 #[PP b4]) (fv 25 #[]) (fv 26 #[]) (fv 27 #[PP b4])))
    have hB8 := Aside0.mk (below_alloc hb8.out (pb l.length A4 es.length c4 bt4 (fv 24 #[PP b4]) (fv 25 #[]) (fv 26 #[]) (fv 27 #[PP b4])))
    have hq8 : Aside0 (w.heap.size ≤ w8.heap.size) := ⟨hb8.out.size⟩
    generalize w8.alloc (pb l.length A4 es.length c4 bt4 (fv 24 #[PP b4]) (fv 25 #[]) (fv 26 #[]) (fv 27 #[PP b4])) = w9 at *
    generalize w8.heap.size = pq at *
    have r0 := (blk_cell hX8.out 0).trans (show _ = some (.int .i64 (l.length : Int)) from rfl)
    have f0 := blk_frozen hX8.out 0
    go_upto_region 12 with (fail)
    have hX9 := Aside0.mk (blk_put hX8.out 0 (.int .i64 (-1)) rfl)
    have hB9 : Aside0 (Below w.heap.size w (w9.setCell ⟨pq, 0, none⟩ (.int .i64 (-1)))) := ⟨below_set hB8.out hq8.out⟩
    generalize w9.setCell ⟨pq, 0, none⟩ (.int .i64 (-1)) = wa at *
    clear r0 f0 hX8 hB8
    have p0 := (blk_cell hX9.out 0).trans (show _ = some (.int .i64 (-1)) from rfl)
    have p1 := (blk_cell hX9.out 1).trans (show _ = some (.slice A4 es.length c4) from rfl)
    have p2 := (blk_cell hX9.out 2).trans (show _ = some (uv bt4) from rfl)
    have p3 := (blk_cell hX9.out 3).trans (show _ = some (fv 24 #[PP b4]) from rfl)
    have p4 := (blk_cell hX9.out 4).trans (show _ = some (fv 25 #[]) from rfl)
    have p5 := (blk_cell hX9.out 5).trans (show _ = some (fv 26 #[]) from rfl)
    have p6 := (blk_cell hX9.out 6).trans (show _ = some (fv 27 #[PP b4]) from rfl)
    go_wp2_with (first | (go_at_call 9; (with_reducible refine (hneg _ _ _ _ _ _ _ _).out.mono ?_); rintro e wb ⟨rfl, hbb⟩; replace hbb := Aside0.mk (below_step hB9.out hbb)) | (go_at_call 8; (with_reducible refine (awake_ _).mono ?_); rintro e wc ⟨rfl, hbc⟩; replace hbc := Aside0.mk hbc))
    go_ret
    exact ⟨rfl, below_step hbb.out hbc.out⟩
theorem refuses {w : World} (A : Option Addr) (l : List Nd) (c : Nat) (hNn : kN.C w A l.length l) (A1 : Option Addr) (es : List (Int × Int)) (c1 : Nat) (hE : kE.C w A1 es.length es) (most : Int) (m0 : -9223372036854775808 ≤ most) (m1 : most ≤ 9223372036854775807) :
    Calls Try.prog 7 #[.slice A l.length c, .slice A1 es.length c1, .int .i64 most] w fun e w' => e = .returned (.bool true) ∧ Below w.heap.size w w' := by
  by_cases h : 64 < l.length ∨ 256 < es.length
  · exact refuses_big A _ c A1 _ c1 most h (Kd.C_max hNn) (Kd.C_max hE)
  · cases hok : allOk l.length es
    · exact refuses_edges A l c ⟨hNn⟩ A1 es c1 ⟨hE⟩ (by omega) (by omega) most m0 m1 hok
    · by_cases hm1 : most < 1
      · exact refuses_none A l c ⟨hNn⟩ A1 es c1 ⟨hE⟩ (by omega) (by omega) most m0 m1 hok hm1
      · exact refuses_good A l c ⟨hNn⟩ A1 es c1 ⟨hE⟩ (by omega) (by omega) most m0 m1 hok (by omega)
end Go.Proofs.Ytfdhpogpeajifaa.Lat
