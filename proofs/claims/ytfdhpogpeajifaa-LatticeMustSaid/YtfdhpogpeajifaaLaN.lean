/- The solver tells the least answer: the walk of the law. -/
import Derived.Test.YtfdhpogpeajifaaLaM
import Derived.Test.YtfdhpogpeajifaaLaJ
namespace Go.Proofs.Ytfdhpogpeajifaa.Lat
open Go.RowKit Go.Proofs.YtfdhpogpeajifaaW.PrintWords Go.Proofs.YtfdhpogpeajifaaW.PrintLast Go.Proofs.YtfdhpogpeajifaaW.PrintMore
set_option linter.unusedVariables false
set_option linter.unusedSimpArgs false
/-- A problem is told, its bottom under a name. -/
def RetPB (l : List Nd) (es : List (Int × Int)) (w : World) (e : Ending) (w' : World) : Prop :=
  ∃ A c b bt, e = .returned (pv l.length A es.length c bt (fv 24 #[PP b]) (fv 25 #[]) (fv 26 #[]) (fv 27 #[PP b])) ∧ Aside0 (bt = (may l (nE es)).bot) ∧ Aside0 (kE.C w' A es.length es) ∧ Aside0 (Cap w' b l) ∧ Aside0 (Below w.heap.size w w')
theorem problemB {w : World} {A : Option Addr} {l : List Nd} {c : Nat} (hN : Aside0 (kN.C w A l.length l)) {A1 : Option Addr} {es : List (Int × Int)} {c1 : Nat} (hE : Aside0 (kE.C w A1 es.length es)) (hes : es.length ≤ 1000000) :
    Calls Try.prog 10 #[.slice A l.length c, .slice A1 es.length c1] w (RetPB l es w) := (problem_ A l c hN A1 es c1 hE hes).mono fun e w' h => by
  obtain ⟨A', c', b, h1, h2, h3, h4⟩ := h
  exact ⟨A', c', b, 0, h1, ⟨rfl⟩, ⟨h2⟩, ⟨h3⟩, ⟨h4⟩⟩
/-- The least answer is told. -/
def RetG (l : List Nd) (es : List (Int × Int)) (w : World) (e : Ending) (w' : World) : Prop :=
  ∃ gI gO I O, e = .returned (.tuple #[.slice (some ⟨gI, 0, none⟩) l.length l.length, .slice (some ⟨gO, 0, none⟩) l.length l.length, .int .i64 0]) ∧ Aside0 (w'.heap[gI]? = some (.cells (us I) 29 (0, 0))) ∧ Aside0 (w'.heap[gO]? = some (.cells (us O) 29 (0, 0))) ∧ Aside0 ((may l (nE es)).Lfp I O) ∧ Aside0 (Below w.heap.size w w')
theorem solve_go {w : World} {bt : V} {l : List Nd} {A : Option Addr} {es : List (Int × Int)} {c : Nat} (hE : Aside0 (kE.C w A es.length es)) {bp : Nat} (hC : Aside0 (Cap w bp l)) (hN : l.length ≤ 64) (hes : es.length ≤ 256) (hok : allOk l.length es = true) (hbt : Aside0 (bt = (may l (nE es)).bot)) :
    Calls Try.prog 9 #[pv l.length A es.length c bt (fv 24 #[PP bp]) (fv 25 #[]) (fv 26 #[]) (fv 27 #[PP bp]), .int .i64 1048576] w (RetG l es w) := (solve_may bt l A es c hE bp hC 1048576 hN hes hok (by omega) hbt).mono fun e w' h => by
  rcases h with ⟨gI, gO, I, O, h1, h2, h3, h4, h5⟩ | ⟨h1, _⟩
  · exact ⟨gI, gO, I, O, h1, ⟨h2⟩, ⟨h3⟩, ⟨h4⟩, ⟨h5⟩⟩
  · exfalso
    have : (1048576 : Int) < (l.length : Int) + 64 * es.length := h1
    omega
theorem solve_bad {w : World} {bt : V} {l : List Nd} {A : Option Addr} {es : List (Int × Int)} {c : Nat} (hE : Aside0 (kE.C w A es.length es)) {bp : Nat} (hN : l.length ≤ 64) (most : Int) (hok : allOk l.length es = false ∨ most < 1) :
    Calls Try.prog 9 #[pv l.length A es.length c bt (fv 24 #[PP bp]) (fv 25 #[]) (fv 26 #[]) (fv 27 #[PP bp]), .int .i64 most] w (RetNo w) :=
  solve_no _ _ _ _ _ _ _ _ _ most (allOk l.length es) hok (fun W b => ⟨may_ l.length (by omega) A es c ⟨Kd.C_below hE.out b⟩ bt 24 25 26 27 #[PP bp] #[] #[] #[PP bp]⟩)
def RetLB (l : List Nd) (es : List (Int × Int)) (w : World) (e : Ending) (w' : World) : Prop :=
  ∃ gI gO I O, e = .returned (.tuple #[.slice (some ⟨gI, 0, none⟩) l.length l.length, .slice (some ⟨gO, 0, none⟩) l.length l.length]) ∧ Ls w w' l.length gI gO I O ∧ (may l (nE es)).Lfp I O
theorem leastB {w : World} (l : List Nd) (A1 : Option Addr) (c1 : Nat) (hNn : Aside0 (kN.C w A1 l.length l)) (A : Option Addr) (es : List (Int × Int)) (c : Nat) (hE : Aside0 (kE.C w A es.length es)) (hN : l.length ≤ 64) (hes : es.length ≤ 256) (hok : allOk l.length es = true) :
    Calls Try.prog 12 #[.slice A1 l.length c1, .slice A es.length c] w (RetLB l es w) := (least_ l A1 c1 hNn A es c hE hN hes hok).mono fun e w' h => h
set_option maxHeartbeats 8000000 in
set_option maxRecDepth 100000 in
theorem solves_big {w : World} (A : Option Addr) (n c : Nat) (A1 : Option Addr) (m c1 : Nat) (h : 64 < n ∨ 256 < m) (hn : n ≤ 9223372036854775807) (hm : m ≤ 9223372036854775807) :
    Calls Try.prog 3 #[.slice A n c, .slice A1 m c1] w (RetB (.bool true) w) := by
  by_cases h1 : 64 < n
  · clear h
    go_enter Try.func3, Try.ntmps3
    go_wp2_with (go_at_call 8; (with_reducible refine (awake_ _).mono ?_); rintro e w1 ⟨rfl, hb⟩; replace hb := Aside0.mk hb)
    go_ret
    exact ⟨rfl, hb.out⟩
  · have h2 : 256 < m := by omega
    clear h
    go_enter Try.func3, Try.ntmps3
    go_wp2_with (go_at_call 8; (with_reducible refine (awake_ _).mono ?_); rintro e w1 ⟨rfl, hb⟩; replace hb := Aside0.mk hb)
    go_ret
    exact ⟨rfl, hb.out⟩
set_option maxHeartbeats 8000000 in
set_option maxRecDepth 100000 in
theorem solves_no {w : World} (A : Option Addr) (l : List Nd) (c : Nat) (hNn : Aside0 (kN.C w A l.length l)) (A1 : Option Addr) (es : List (Int × Int)) (c1 : Nat) (hE : Aside0 (kE.C w A1 es.length es)) (h1 : l.length ≤ 64) (h2 : es.length ≤ 256) (hok : allOk l.length es = false) :
    Calls Try.prog 3 #[.slice A l.length c, .slice A1 es.length c1] w (RetB (.bool true) w) := by
  have hed : ∀ W, Below w.heap.size w W → Aside0 (Calls Try.prog 11 #[.slice A1 es.length c1, .int .i64 (l.length : Int)] W fun e w' => e = .returned (.bool false) ∧ W = w') := fun W b => ⟨by have := edges_ (w := W) (A := A1) (c := c1) (es := es) l.length ⟨Kd.C_below hE.out b⟩; rw [hok] at this; exact this⟩
  have hbad := fun (W : World) (bt : V) (A2 : Option Addr) (c2 bp : Nat) (hc : Aside0 (kE.C W A2 es.length es)) => Aside0.mk (solve_bad (bt := bt) (c := c2) (bp := bp) hc h1 1048576 (.inl hok))
  replace hok := Aside0.mk hok
  go_enter Try.func3, Try.ntmps3
  go_upto_region 4 with (first | (go_at_call 10; (with_reducible refine (problemB hNn hE (by omega)).mono ?_); rintro e w1 ⟨A2, c2, b, bt, rfl, hbt, hE2, hC2, hb1⟩) | (go_at_call 9; (with_reducible refine (hbad _ _ _ _ _ hE2).out.mono ?_); rintro e w2 ⟨rfl, hb2⟩; replace hb2 := Aside0.mk (below_step hb1.out hb2)))
  go_wp2_with (first | (go_at_call 11; (with_reducible refine (hed _ hb2.out).out.mono ?_); rintro e w3 ⟨rfl, rfl⟩) | (go_at_call 8; (with_reducible refine (awake_ _).mono ?_); rintro e w4 ⟨rfl, hb4⟩; replace hb4 := Aside0.mk hb4))
  go_ret
  exact ⟨rfl, below_step hb2.out hb4.out⟩
set_option maxHeartbeats 8000000 in
set_option maxRecDepth 100000 in
theorem solves_yes {w : World} (A : Option Addr) (l : List Nd) (c : Nat) (hNn : Aside0 (kN.C w A l.length l)) (A1 : Option Addr) (es : List (Int × Int)) (c1 : Nat) (hE : Aside0 (kE.C w A1 es.length es)) (h1 : l.length ≤ 64) (h2 : es.length ≤ 256) (hok : allOk l.length es = true) :
    Calls Try.prog 3 #[.slice A l.length c, .slice A1 es.length c1] w (RetB (.bool true) w) := by
  have hed : ∀ W, Below w.heap.size w W → Aside0 (Calls Try.prog 11 #[.slice A1 es.length c1, .int .i64 (l.length : Int)] W fun e w' => e = .returned (.bool true) ∧ W = w') := fun W b => ⟨by have := edges_ (w := W) (A := A1) (c := c1) (es := es) l.length ⟨Kd.C_below hE.out b⟩; rw [hok] at this; exact this⟩
  have hgo := fun (W : World) (bt : V) (A2 : Option Addr) (c2 bp : Nat) (hc : Aside0 (kE.C W A2 es.length es)) (hC : Aside0 (Cap W bp l)) (hbt : Aside0 (bt = (may l (nE es)).bot)) => Aside0.mk (solve_go (c := c2) hc hC h1 h2 hok hbt)
  have hle := fun (W : World) (b : Below w.heap.size w W) => Aside0.mk (leastB (w := W) l A c ⟨Kd.C_below hNn.out b⟩ A1 es c1 ⟨Kd.C_below hE.out b⟩ h1 h2 hok)
  have hQ : Aside0 ((may l (nE es)).Ok) := ⟨may_ok (eok_edges hok)⟩
  replace hok := Aside0.mk hok
  go_enter Try.func3, Try.ntmps3
  go_upto_region 4 with (first | (go_at_call 10; (with_reducible refine (problemB hNn hE (by omega)).mono ?_); rintro e w1 ⟨A2, c2, b, bt, rfl, hbt, hE2, hC2, hb1⟩) | (go_at_call 9; (with_reducible refine (hgo _ _ _ _ _ hE2 hC2 hbt).out.mono ?_); rintro e w2 ⟨gI, gO, I, O, rfl, hI, hO, hL, hb2⟩; replace hb2 := Aside0.mk (below_step hb1.out hb2.out)))
  go_upto_region 7 with (first | (go_at_call 11; (with_reducible refine (hed _ hb2.out).out.mono ?_); rintro e w3 ⟨rfl, rfl⟩) | (go_at_call 12; (with_reducible refine (hle _ hb2.out).out.mono ?_); rintro e w3 ⟨gJ, gP, J, P, rfl, hS, hM⟩; replace hS := Aside0.mk hS; replace hM := Aside0.mk hM))
  obtain ⟨rfl, rfl⟩ := Sys.Lfp.unique hQ.out hL.out hM.out
  have hI3 := Aside0.mk (blk_below hI.out hS.out.bel)
  have hO3 := Aside0.mk (blk_below hO.out hS.out.bel)
  have hb3 := Aside0.mk (below_step hb2.out hS.out.bel)
  have hs1 : Calls Try.prog 13 #[.slice (some ⟨gI, 0, none⟩) l.length l.length, .slice (some ⟨gJ, 0, none⟩) l.length l.length] w3 (RetB (.bool true) w3) := same_ hI3.out hS.out.bI hS.out.lI (by show l.length ≤ _; omega)
  have hs2 : ∀ W, Below w3.heap.size w3 W → Aside0 (Calls Try.prog 13 #[.slice (some ⟨gO, 0, none⟩) l.length l.length, .slice (some ⟨gP, 0, none⟩) l.length l.length] W (RetB (.bool true) W)) := fun W b => ⟨same_ (blk_below hO3.out b) (blk_below hS.out.bO b) hS.out.lO (by show l.length ≤ _; omega)⟩
  go_wp2_with (first | (go_at_call 13; (with_reducible refine hs1.mono ?_); rintro e w4 ⟨rfl, hb4⟩; replace hb4 := Aside0.mk hb4) | (go_at_call 13; (with_reducible refine (hs2 _ hb4.out).out.mono ?_); rintro e w5 ⟨rfl, hb5⟩; replace hb5 := Aside0.mk hb5) | (go_at_call 8; (with_reducible refine (awake_ _).mono ?_); rintro e w6 ⟨rfl, hb6⟩; replace hb6 := Aside0.mk hb6))
  go_ret
  exact ⟨rfl, below_step (below_step (below_step hb3.out hb4.out) hb5.out) hb6.out⟩
theorem solves {w : World} (A : Option Addr) (l : List Nd) (c : Nat) (hNn : kN.C w A l.length l) (A1 : Option Addr) (es : List (Int × Int)) (c1 : Nat) (hE : kE.C w A1 es.length es) :
    Calls Try.prog 3 #[.slice A l.length c, .slice A1 es.length c1] w fun e w' => e = .returned (.bool true) ∧ Below w.heap.size w w' := by
  by_cases h : 64 < l.length ∨ 256 < es.length
  · exact solves_big A _ c A1 _ c1 h (Kd.C_max hNn) (Kd.C_max hE)
  · cases hok : allOk l.length es
    · exact solves_no A l c ⟨hNn⟩ A1 es c1 ⟨hE⟩ (by omega) (by omega) hok
    · exact solves_yes A l c ⟨hNn⟩ A1 es c1 ⟨hE⟩ (by omega) (by omega) hok
end Go.Proofs.Ytfdhpogpeajifaa.Lat
