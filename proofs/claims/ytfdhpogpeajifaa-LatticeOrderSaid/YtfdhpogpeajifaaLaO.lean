/- The order of edges does not move the answer: the walk of the law. -/
import Derived.Test.YtfdhpogpeajifaaLaN
namespace Go.Proofs.Ytfdhpogpeajifaa.Lat
open Go.RowKit Go.Proofs.YtfdhpogpeajifaaW.PrintWords Go.Proofs.YtfdhpogpeajifaaW.PrintLast Go.Proofs.YtfdhpogpeajifaaW.PrintMore Go.Proofs.Ytfdhpogpeajifaa.PLatticeSolves
set_option linter.unusedVariables false
set_option linter.unusedSimpArgs false
theorem same_nil (w : World) : Calls Try.prog 13 #[.slice none 0 0, .slice none 0 0] w (RetB (.bool true) w) :=
  (cruciblelaw19_same.calls 1 none 0 [] none 0 [] true w (Kd.C_nil _ w) (by simp) (Kd.C_nil _ w) (by simp) rfl).mono fun e w' h => ⟨h.1, h.2.below⟩
theorem emptyE_R (W : World) (base : Nat) (hb : base ≤ W.heap.size) : Kd.R kE 44 (W.alloc (.cells #[] 44)) base (fun _ => True) (.slice (some ⟨W.heap.size, 0, none⟩) 0 0) [] := by
  have h2 := World.ownsRow_lit (base := base) (e := 44) (size := kE.sz) W #[] 0 hb (by simp [maxLen]) (by simp)
  exact ⟨fun _ _ => trivial, [], by simpa using h2, Reps.none _ _⟩
theorem allOk_rev (n : Int) (es : List (Int × Int)) : allOk n es.reverse = allOk n es := by unfold allOk; rw [List.all_reverse]
theorem nE_rev (es : List (Int × Int)) : nE es.reverse = (nE es).reverse := by unfold nE; rw [List.map_reverse]
theorem rev_take (es : List (Int × Int)) (k : Nat) (h : k < es.length) : es.reverse.take (k + 1) = es.reverse.take k ++ [es.getD (es.length - 1 - k) (0, 0)] := by
  rw [List.take_succ_eq_append_getElem (by simpa using h), List.getElem_reverse, List.getD_eq_getElem?_getD, List.getElem?_eq_getElem (by omega)]
  rfl
set_option maxHeartbeats 8000000 in
set_option maxRecDepth 100000 in
theorem order_big {w : World} (A : Option Addr) (n c : Nat) (A1 : Option Addr) (m c1 : Nat) (h : 64 < n ∨ 256 < m) (hn : n ≤ 9223372036854775807) (hm : m ≤ 9223372036854775807) :
    Calls Try.prog 6 #[.slice A n c, .slice A1 m c1] w (RetB (.bool true) w) := by
  by_cases h1 : 64 < n
  · clear h
    go_enter Try.func6, Try.ntmps6
    go_wp2_with (go_at_call 8; (with_reducible refine (awake_ _).mono ?_); rintro e w1 ⟨rfl, hb⟩; replace hb := Aside0.mk hb)
    go_ret
    exact ⟨rfl, hb.out⟩
  · have h2 : 256 < m := by omega
    clear h
    go_enter Try.func6, Try.ntmps6
    go_wp2_with (go_at_call 8; (with_reducible refine (awake_ _).mono ?_); rintro e w1 ⟨rfl, hb⟩; replace hb := Aside0.mk hb)
    go_ret
    exact ⟨rfl, hb.out⟩
set_option maxHeartbeats 16000000 in
set_option maxRecDepth 100000 in
theorem order_small {w : World} (A : Option Addr) (l : List Nd) (c : Nat) (hNn : Aside0 (kN.C w A l.length l)) (A1 : Option Addr) (es : List (Int × Int)) (c1 : Nat) (hE : Aside0 (kE.C w A1 es.length es)) (h1 : l.length ≤ 64) (h2 : es.length ≤ 256) :
    Calls Try.prog 6 #[.slice A l.length c, .slice A1 es.length c1] w (RetB (.bool true) w) := by
  have hR0 := Aside0.mk (emptyE_R w w.heap.size (Nat.le_refl _))
  have hB0 : Aside0 (Below w.heap.size w (w.alloc (.cells #[] 44))) := ⟨below_alloc (Below.refl _ _) _⟩
  have hw : IntKind.i64.wrap ((es.length : Int) - 1) = (es.length : Int) - 1 := IntWalk.i64_in _ (by omega)
  go_enter Try.func6, Try.ntmps6
  go_wp2_with fail
  clear hw
  go_loopw [5, 6] (fun u5 u6 wr => ∃ k : Nat, u6 = .int .i64 ((es.length : Int) - 1 - k) ∧ k ≤ es.length ∧ Aside0 (Kd.R kE 44 wr w.heap.size (fun _ => True) u5 (es.reverse.take k)) ∧ Aside0 (Below w.heap.size w wr)) (fun _ i _ => (intOf i + 1).toNat)
  case atStart => exact ⟨0, by go_num, Nat.zero_le _, hR0, hB0⟩
  case round =>
    obtain ⟨k, rfl, hk, hR, hB⟩ := hrel
    clear hR0 hB0
    by_cases hlt : k < es.length
    · obtain ⟨m, hm⟩ : ∃ m : Nat, m = es.length - 1 - k := ⟨_, rfl⟩
      have em : (es.length : Int) - 1 - k = (m : Int) := by omega
      have ht := Aside0.mk (rev_take es k hlt)
      obtain ⟨ad, ea, b0, b1⟩ := at_E hE.out m (by omega)
      subst ea
      replace b0 := (hB.out.cell (World.block_lt_of_cell? w _ b0)).trans b0
      replace b1 := (hB.out.cell (World.block_lt_of_cell? w _ b1)).trans b1
      rw [← hm] at ht
      generalize es.getD m (0, 0) = x at *
      obtain ⟨x1, x2⟩ := x
      simp only at b0 b1
      rw [em]
      have q0 : (0 : Int) ≤ (m : Int) := by omega
      have q1 : (m : Int) < (es.length : Int) := by omega
      have hlen : Aside0 ((es.reverse.take k).length ≤ 256) := ⟨by rw [List.length_take]; simp; omega⟩
      have hms : Aside0 ((m : Int) - 1 = (es.length : Int) - 1 - ((k + 1 : Nat) : Int)) := ⟨by omega⟩
      have hmw : IntKind.i64.wrap ((m : Int) - 1) = (m : Int) - 1 := IntWalk.i64_in _ (by omega)
      replace hm := Aside0.mk hm
      replace em := Aside0.mk em
      go_wp2_with (at_builtin; (refine Kd.R_append kE (w0 := w) w.heap.size rfl (.tmp 30) (.tmp 35) 23 44 (.agg #[.int .i64 0, .int .i64 0]) 16 rfl Try.underlying23 info44 rfl (by decide) (by omega) u5 (es.reverse.take k) (x1, x2) [.int .i64 x1, .int .i64 x2] (fun _ => True) (fun _ => False) rfl rfl ?aP (fun _ hk => hk.elim) ?aF ?aO ?aB ?aS ?aL ?_; (case aP => exact ⟨[_], [_], rfl, rfl, rfl⟩); (case aB => exact hB.out); (case aF => exact fun _ _ => trivial); (case aO => exact hR.out); (case aS => exact below_size hB.out); (case aL => have := hlen.out; omega); intro v1 w1 ho hb hg hat; have hR2 := Aside0.mk ho; have hB2 := Aside0.mk hb; clear ho hb hg hat))
      rw [← ht.out] at hR2
      go_roundw
      case rel => exact ⟨k + 1, by rw [hms.out], by omega, hR2, hB2⟩
      case measure => simp [intOf] <;> omega
    · obtain rfl : k = es.length := by omega
      rw [show (es.length : Int) - 1 - es.length = -1 by omega]
      rw [List.take_of_length_le (by simp)] at hR
      have hao := allOk_rev l.length es
      have hne := nE_rev es
      have hrl : es.reverse.length = es.length := List.length_reverse
      generalize es.reverse = rs at *
      obtain ⟨Ab, cb, eb⟩ := Kd.R_slice hR.out
      subst eb
      have hEb := Aside0.mk (Kd.R_reads' hR.out).2.2
      have hesr : rs.length ≤ 1000000 := by omega
      have hNb := Aside0.mk (Kd.C_below hNn.out hB.out)
      have hE1 := Aside0.mk (Kd.C_below hE.out hB.out)
      replace hrl := Aside0.mk hrl
      replace hao := Aside0.mk hao
      replace hne := Aside0.mk hne
      clear hlt hk hR
      cases hok : allOk l.length es
      · have hbad := fun (W : World) (bt : V) (A2 : Option Addr) (c2 bp : Nat) (hc : Aside0 (kE.C W A2 es.length es)) => Aside0.mk (solve_bad (bt := bt) (c := c2) (bp := bp) hc h1 1048576 (.inl hok))
        have hbad2 := fun (W : World) (bt : V) (A2 : Option Addr) (c2 bp : Nat) (hc : Aside0 (kE.C W A2 rs.length rs)) => Aside0.mk (solve_bad (bt := bt) (c := c2) (bp := bp) hc h1 1048576 (.inl (by rw [hao.out]; exact hok)))
        replace hok := Aside0.mk hok
        go_upto_region 9 with (first | (go_at_call 10; (with_reducible refine (problemB hNb hE1 (by omega)).mono ?_); rintro e w1 ⟨A2, c2, b, bt, rfl, hbt, hE2, hC2, hb1⟩) | (go_at_call 9; (with_reducible refine (hbad _ _ _ _ _ hE2).out.mono ?_); rintro e w2 ⟨rfl, hb2⟩; replace hb2 := Aside0.mk (below_step hb1.out hb2)))
        have hNc := Aside0.mk (Kd.C_below hNb.out hb2.out)
        have hEc := Aside0.mk (Kd.C_below hEb.out hb2.out)
        go_upto_region 10 with (first | (go_at_call 10; (with_reducible refine (problemB hNc hEc hesr).mono ?_); rintro e w3 ⟨A4, c4, b4, bt4, rfl, hbt4, hE4, hC4, hb3⟩) | (go_at_call 9; (with_reducible refine (hbad2 _ _ _ _ _ hE4).out.mono ?_); rintro e w4 ⟨rfl, hb4⟩; replace hb4 := Aside0.mk (below_step hb3.out hb4)))
        have hbz := Aside0.mk (below_step (below_step hB.out hb2.out) hb4.out)
        go_wp2_with (first | (go_at_call 13; (with_reducible refine (same_nil _).mono ?_); rintro e w5 ⟨rfl, hb5⟩; replace hbz := Aside0.mk (below_step hbz.out hb5); clear hb5) | (go_at_call 8; (with_reducible refine (awake_ _).mono ?_); rintro e w6 ⟨rfl, hb6⟩; replace hbz := Aside0.mk (below_step hbz.out hb6); clear hb6))
        go_ret
        exact ⟨rfl, hbz.out⟩
      · have hgo := fun (W : World) (bt : V) (A2 : Option Addr) (c2 bp : Nat) (hc : Aside0 (kE.C W A2 es.length es)) (hC : Aside0 (Cap W bp l)) (hbt : Aside0 (bt = (may l (nE es)).bot)) => Aside0.mk (solve_go (c := c2) hc hC h1 h2 hok hbt)
        have hgo2 := fun (W : World) (bt : V) (A2 : Option Addr) (c2 bp : Nat) (hc : Aside0 (kE.C W A2 rs.length rs)) (hC : Aside0 (Cap W bp l)) (hbt : Aside0 (bt = (may l (nE rs)).bot)) => Aside0.mk (solve_go (c := c2) hc hC h1 (by rw [hrl.out]; exact h2) (by rw [hao.out]; exact hok) hbt)
        have hQ : Aside0 ((may l (nE es)).Ok) := ⟨may_ok (eok_edges hok)⟩
        replace hok := Aside0.mk hok
        go_upto_region 9 with (first | (go_at_call 10; (with_reducible refine (problemB hNb hE1 (by omega)).mono ?_); rintro e w1 ⟨A2, c2, b, bt, rfl, hbt, hE2, hC2, hb1⟩) | (go_at_call 9; (with_reducible refine (hgo _ _ _ _ _ hE2 hC2 hbt).out.mono ?_); rintro e w2 ⟨gI, gO, I, O, rfl, hI, hO, hL, hb2⟩; replace hb2 := Aside0.mk (below_step hb1.out hb2.out)))
        have hNc := Aside0.mk (Kd.C_below hNb.out hb2.out)
        have hEc := Aside0.mk (Kd.C_below hEb.out hb2.out)
        go_upto_region 10 with (first | (go_at_call 10; (with_reducible refine (problemB hNc hEc hesr).mono ?_); rintro e w3 ⟨A4, c4, b4, bt4, rfl, hbt4, hE4, hC4, hb3⟩) | (go_at_call 9; (with_reducible refine (hgo2 _ _ _ _ _ hE4 hC4 hbt4).out.mono ?_); rintro e w4 ⟨gJ, gP, J, P, rfl, hJ, hP, hM, hb4⟩; replace hb4 := Aside0.mk (below_step hb3.out hb4.out)))
        have hM2 : Aside0 ((may l (nE es)).Lfp J P) := ⟨may_rev (by rw [← hne.out]; exact hM.out)⟩
        obtain ⟨rfl, rfl⟩ := Sys.Lfp.unique hQ.out hL.out hM2.out
        have hI3 := Aside0.mk (blk_below hI.out hb4.out)
        have hO3 := Aside0.mk (blk_below hO.out hb4.out)
        have hs1 : Calls Try.prog 13 #[.slice (some ⟨gI, 0, none⟩) l.length l.length, .slice (some ⟨gJ, 0, none⟩) l.length l.length] w4 (RetB (.bool true) w4) := same_ hI3.out hJ.out hL.out.li (by show l.length ≤ _; omega)
        have hs2 : ∀ W, Below w4.heap.size w4 W → Aside0 (Calls Try.prog 13 #[.slice (some ⟨gO, 0, none⟩) l.length l.length, .slice (some ⟨gP, 0, none⟩) l.length l.length] W (RetB (.bool true) W)) := fun W b => ⟨same_ (blk_below hO3.out b) (blk_below hP.out b) hL.out.lo (by show l.length ≤ _; omega)⟩
        go_wp2_with (first | (go_at_call 13; (with_reducible refine hs1.mono ?_); rintro e w5 ⟨rfl, hb5⟩; replace hb5 := Aside0.mk hb5) | (go_at_call 13; (with_reducible refine (hs2 _ hb5.out).out.mono ?_); rintro e w6 ⟨rfl, hb6⟩; replace hb6 := Aside0.mk hb6) | (go_at_call 8; (with_reducible refine (awake_ _).mono ?_); rintro e w7 ⟨rfl, hb7⟩; replace hb7 := Aside0.mk hb7))
        go_ret
        exact ⟨rfl, below_step (below_step (below_step (below_step (below_step hB.out hb2.out) hb4.out) hb5.out) hb6.out) hb7.out⟩
theorem order {w : World} (A : Option Addr) (l : List Nd) (c : Nat) (hNn : kN.C w A l.length l) (A1 : Option Addr) (es : List (Int × Int)) (c1 : Nat) (hE : kE.C w A1 es.length es) :
    Calls Try.prog 6 #[.slice A l.length c, .slice A1 es.length c1] w fun e w' => e = .returned (.bool true) ∧ Below w.heap.size w w' := by
  by_cases h : 64 < l.length ∨ 256 < es.length
  · exact order_big A _ c A1 _ c1 h (Kd.C_max hNn) (Kd.C_max hE)
  · exact order_small A l c ⟨hNn⟩ A1 es c1 ⟨hE⟩ (by omega) (by omega)
end Go.Proofs.Ytfdhpogpeajifaa.Lat
