/- The answer is a fixed point: the walk of the law. -/
import Derived.Test.YtfdhpogpeajifaaLaN
namespace Go.Proofs.Ytfdhpogpeajifaa.Lat
open Go.RowKit Go.Proofs.YtfdhpogpeajifaaW.PrintWords Go.Proofs.YtfdhpogpeajifaaW.PrintLast Go.Proofs.YtfdhpogpeajifaaW.PrintMore
set_option linter.unusedVariables false
set_option linter.unusedSimpArgs false
set_option maxHeartbeats 8000000 in
set_option maxRecDepth 100000 in
theorem fixed_big {w : World} (A : Option Addr) (n c : Nat) (A1 : Option Addr) (m c1 : Nat) (h : 64 < n ∨ 256 < m) (hn : n ≤ 9223372036854775807) (hm : m ≤ 9223372036854775807) :
    Calls Try.prog 5 #[.slice A n c, .slice A1 m c1] w (RetB (.bool true) w) := by
  by_cases h1 : 64 < n
  · clear h
    go_enter Try.func5, Try.ntmps5
    go_wp2_with (go_at_call 8; (with_reducible refine (awake_ _).mono ?_); rintro e w1 ⟨rfl, hb⟩; replace hb := Aside0.mk hb)
    go_ret
    exact ⟨rfl, hb.out⟩
  · have h2 : 256 < m := by omega
    clear h
    go_enter Try.func5, Try.ntmps5
    go_wp2_with (go_at_call 8; (with_reducible refine (awake_ _).mono ?_); rintro e w1 ⟨rfl, hb⟩; replace hb := Aside0.mk hb)
    go_ret
    exact ⟨rfl, hb.out⟩
set_option maxHeartbeats 8000000 in
set_option maxRecDepth 100000 in
theorem fixed_no {w : World} (A : Option Addr) (l : List Nd) (c : Nat) (hNn : Aside0 (kN.C w A l.length l)) (A1 : Option Addr) (es : List (Int × Int)) (c1 : Nat) (hE : Aside0 (kE.C w A1 es.length es)) (h1 : l.length ≤ 64) (h2 : es.length ≤ 256) (hok : allOk l.length es = false) :
    Calls Try.prog 5 #[.slice A l.length c, .slice A1 es.length c1] w (RetB (.bool true) w) := by
  have hed : Aside0 (Calls Try.prog 11 #[.slice A1 es.length c1, .int .i64 (l.length : Int)] w fun e w' => e = .returned (.bool false) ∧ w = w') := ⟨by have := edges_ (w := w) (A := A1) (c := c1) (es := es) l.length hE; rw [hok] at this; exact this⟩
  replace hok := Aside0.mk hok
  go_enter Try.func5, Try.ntmps5
  go_wp2_with (first | (go_at_call 11; (with_reducible refine hed.out.mono ?_); rintro e w3 ⟨rfl, rfl⟩) | (go_at_call 8; (with_reducible refine (awake_ _).mono ?_); rintro e w4 ⟨rfl, hb4⟩; replace hb4 := Aside0.mk hb4))
  go_ret
  exact ⟨rfl, hb4.out⟩
set_option maxHeartbeats 32000000 in
set_option maxRecDepth 100000 in
theorem fixed_yes {w : World} (A : Option Addr) (l : List Nd) (c : Nat) (hNn : Aside0 (kN.C w A l.length l)) (A1 : Option Addr) (es : List (Int × Int)) (c1 : Nat) (hE : Aside0 (kE.C w A1 es.length es)) (h1 : l.length ≤ 64) (h2 : es.length ≤ 256) (hok : allOk l.length es = true) :
    Calls Try.prog 5 #[.slice A l.length c, .slice A1 es.length c1] w (RetB (.bool true) w) := by
  have hed : Aside0 (Calls Try.prog 11 #[.slice A1 es.length c1, .int .i64 (l.length : Int)] w fun e w' => e = .returned (.bool true) ∧ w = w') := ⟨by have := edges_ (w := w) (A := A1) (c := c1) (es := es) l.length hE; rw [hok] at this; exact this⟩
  have hgo := fun (W : World) (bt : V) (A2 : Option Addr) (c2 bp : Nat) (hc : Aside0 (kE.C W A2 es.length es)) (hC : Aside0 (Cap W bp l)) (hbt : Aside0 (bt = (may l (nE es)).bot)) => Aside0.mk (solve_go (c := c2) hc hC h1 h2 hok hbt)
  have hQk : Aside0 ((may l (nE es)).Ok) := ⟨may_ok (eok_edges hok)⟩
  replace hok := Aside0.mk hok
  go_enter Try.func5, Try.ntmps5
  go_upto_region 4 with (first | (go_at_call 11; (with_reducible refine hed.out.mono ?_); rintro e w3 ⟨rfl, rfl⟩) | (go_at_call 10; (with_reducible refine (problemB hNn hE (by omega)).mono ?_); rintro e w1 ⟨A2, c2, b, bt, rfl, hbt, hE2, hC2, hb1⟩))
  have hX := Aside0.mk (blk_new w1 (pb l.length A2 es.length c2 bt (fv 24 #[PP b]) (fv 25 #[]) (fv 26 #[]) (fv 27 #[PP b])))
  have hB := Aside0.mk (below_alloc hb1.out (pb l.length A2 es.length c2 bt (fv 24 #[PP b]) (fv 25 #[]) (fv 26 #[]) (fv 27 #[PP b])))
  have hpp : Aside0 (w.heap.size ≤ w1.heap.size) := ⟨hb1.out.size⟩
  replace hE2 := Aside0.mk (Kd.C_alloc hE2.out (pb l.length A2 es.length c2 bt (fv 24 #[PP b]) (fv 25 #[]) (fv 26 #[]) (fv 27 #[PP b])))
  replace hC2 := Aside0.mk (hC2.out.below (below_alloc (Below.refl _ _) (pb l.length A2 es.length c2 bt (fv 24 #[PP b]) (fv 25 #[]) (fv 26 #[]) (fv 27 #[PP b]))))
  generalize w1.alloc (pb l.length A2 es.length c2 bt (fv 24 #[PP b]) (fv 25 #[]) (fv 26 #[]) (fv 27 #[PP b])) = W at *
  generalize w1.heap.size = pp at *
  clear hb1 hed
  have p0 := (blk_cell hX.out 0).trans (show _ = some (.int .i64 (l.length : Int)) from rfl)
  have p1 := (blk_cell hX.out 1).trans (show _ = some (.slice A2 es.length c2) from rfl)
  have p2 := (blk_cell hX.out 2).trans (show _ = some (uv bt) from rfl)
  have p3 := (blk_cell hX.out 3).trans (show _ = some (fv 24 #[PP b]) from rfl)
  have p4 := (blk_cell hX.out 4).trans (show _ = some (fv 25 #[]) from rfl)
  have p5 := (blk_cell hX.out 5).trans (show _ = some (fv 26 #[]) from rfl)
  have p6 := (blk_cell hX.out 6).trans (show _ = some (fv 27 #[PP b]) from rfl)
  go_upto_region 5 with (go_at_call 9; (with_reducible refine (hgo _ _ _ _ _ hE2 hC2 hbt).out.mono ?_); rintro e w2 ⟨gI, gO, I, O, rfl, hI, hO, hL, hb2⟩)
  clear p0 p1 p2 p3 p4 p5 p6 hgo hbt hE2
  replace hX := Aside0.mk (blk_below hX.out hb2.out)
  replace hC2 := Aside0.mk (hC2.out.below hb2.out)
  have hB2 := Aside0.mk (below_step hB.out hb2.out)
  replace hE := Aside0.mk (Kd.C_below hE.out hB2.out)
  clear hB hb2 hNn
  go_wp2_with fail
  go_loopw [4, 9] (fun u4 u9 wr => ∃ n : Nat, u4 = .bool false ∧ u9 = .int .i64 n ∧ n ≤ l.length ∧ Aside0 (Below w2.heap.size w2 wr)) (fun _ i _ => l.length - (intOf i).toNat)
  case atStart => exact ⟨0, rfl, rfl, Nat.zero_le _, ⟨Below.refl _ _⟩⟩
  case round =>
    obtain ⟨n, rfl, rfl, hn, hbr⟩ := hrel
    by_cases hlt : n < l.length
    · have c3 : wr.cell? ⟨pp, 3, none⟩ = some (fv 24 #[PP b]) := (blk_cell (blk_below hX.out hbr.out) 3).trans rfl
      have hst := Aside0.mk (startN ⟨hC2.out.below hbr.out⟩ n hlt)
      have hvf := Aside0.mk (fun v => may_flow l (nE es) n v)
      have hvs := Aside0.mk (may_start l (nE es) n)
      have hfl := fun (W' : World) (v : V) (h : Below w2.heap.size w2 W') => Aside0.mk (flow_ (w := W') ⟨hC2.out.below h⟩ n hlt v)
      have hfe : ∀ v, fl l n v = (may l (nE es)).flow n v := fun v => rfl
      replace hfe := Aside0.mk hfe
      have hIn : Aside0 (I.getD n 0 = (may l (nE es)).vin O n) := ⟨hL.out.ins n hlt⟩
      have hOn : Aside0 (O.getD n 0 = (may l (nE es)).flow n ((may l (nE es)).vin O n)) := ⟨hL.out.fix n hlt⟩
      have hIl : Aside0 (n < I.length) := ⟨by rw [hL.out.li]; exact hlt⟩
      have hOl : Aside0 (O.length = l.length) := ⟨hL.out.lo⟩
      have q0 : (0 : Int) ≤ (n : Int) := by omega
      have q1 : (n : Int) < (l.length : Int) := by omega
      have ap2 := add_plain gI n
      have ap3 := add_plain gO n
      generalize l.getD n z0 = nd at *
      go_wp2_with (go_at_call 24; (with_reducible refine hst.out.mono ?_); rintro e w3 ⟨rfl, rfl⟩)
      clear hst c3
      go_loopw [10, 11] (fun u10 u11 wx => ∃ q : Nat, u11 = .int .i64 q ∧ q ≤ es.length ∧ Aside0 (Below w2.heap.size w2 wx) ∧ u10 = uv ((preds (nE (es.take q)) n).foldl (fun v k => v ||| O.getD k 0) nd.start)) (fun _ i _ => es.length - (intOf i).toNat)
      case atStart => exact ⟨0, rfl, Nat.zero_le _, hbr, rfl⟩
      case round =>
        clear hbr
        obtain ⟨q, rfl, hq, hbr, rfl⟩ := hrel
        by_cases hqt : q < es.length
        · obtain ⟨ae, ee, b0, b1⟩ := at_E hE.out q hqt
          subst ee
          replace b0 := (hbr.out.cell (World.block_lt_of_cell? w2 _ b0)).trans b0
          replace b1 := (hbr.out.cell (World.block_lt_of_cell? w2 _ b1)).trans b1
          have hx := eOk_at hok.out hqt
          have hsn := fun x h => Aside0.mk (nE_take es q hqt x h)
          obtain ⟨x, hxe⟩ : ∃ x, es.getD q (0, 0) = x := ⟨_, rfl⟩
          rw [hxe] at b0 b1 hx
          replace hsn := hsn x hxe
          clear hxe
          obtain ⟨x1, x2⟩ := x
          obtain ⟨ha0, ha1, hb0, hb1⟩ := hx
          simp only at b0 b1 ha0 ha1 hb0 hb1 hsn
          obtain ⟨sa, rfl⟩ := Int.eq_ofNat_of_zero_le ha0
          obtain ⟨sb, rfl⟩ := Int.eq_ofNat_of_zero_le hb0
          simp only [Int.toNat_natCast] at hsn
          have haN : sa < l.length := by omega
          have hps := Aside0.mk (preds_snoc (nE (es.take q)) sa sb n)
          rw [← hsn.out] at hps
          have aps := add_plain gO sa
          have hcO : wr.cell? ⟨gO, sa, none⟩ = some (uv (O.getD sa 0)) := us_cell (blk_below hO.out hbr.out) sa (by rw [hOl.out]; exact haN)
          have c4 : wr.cell? ⟨pp, 4, none⟩ = some (fv 25 #[]) := (blk_cell (blk_below hX.out hbr.out) 4).trans rfl
          by_cases hsb : sb = n
          · have hs1 : ((sb : Int) == (n : Int)) = true := by rw [hsb]; simp
            have hpe : Aside0 ((preds (nE (es.take (q + 1))) n).foldl (fun v k => v ||| O.getD k 0) nd.start = (preds (nE (es.take q)) n).foldl (fun v k => v ||| O.getD k 0) nd.start ||| O.getD sa 0) := ⟨by rw [hps.out, if_pos hsb, List.foldl_append]; rfl⟩
            generalize (preds (nE (es.take q)) n).foldl (fun v k => v ||| O.getD k 0) nd.start = X at *
            generalize O.getD sa 0 = Y at *
            replace hsb := Aside0.mk hsb
            have hor := fun W' => Aside0.mk (or_ X Y W')
            go_upto_region 15 with (fail)
            go_quiet ((go_at_call 25; refine Calls.quiet_of_same ((hor _).out.mono fun _ _ h => ⟨h.1, h.2.symm⟩)))
            go_wp2_with fail
            go_roundw
            case rel => exact ⟨q + 1, by go_num, by omega, ⟨below_step hbr.out (pw_below_drewN (Below.refl _ _) _)⟩, by rw [hpe.out]⟩
            case measure => simp [intOf]; omega
          · have hs1 : ((sb : Int) == (n : Int)) = false := beq_eq_false_iff_ne.mpr (by omega)
            have hpe : Aside0 ((preds (nE (es.take (q + 1))) n).foldl (fun v k => v ||| O.getD k 0) nd.start = (preds (nE (es.take q)) n).foldl (fun v k => v ||| O.getD k 0) nd.start) := ⟨by rw [hps.out, if_neg hsb]⟩
            replace hsb := Aside0.mk hsb
            go_wp2_with fail
            go_roundw
            case rel => exact ⟨q + 1, by go_num, by omega, hbr, by rw [hpe.out]⟩
            case measure => simp [intOf]; omega
        · obtain rfl : q = es.length := by omega
          rw [List.take_length]
          have hvi : Aside0 ((may l (nE es)).vin O n = (preds (nE es) n).foldl (fun v k => v ||| O.getD k 0) nd.start) := ⟨by rw [vin_eq (may l (nE es)) (nE es) 0 rfl rfl O n, hvs.out]; rfl⟩
          rw [← hvi.out]
          clear hqt hq
          have hcI : wr.cell? ⟨gI, n, none⟩ = some (uv (I.getD n 0)) := us_cell (blk_below hI.out hbr.out) n hIl.out
          have hcO : wr.cell? ⟨gO, n, none⟩ = some (uv (O.getD n 0)) := us_cell (blk_below hO.out hbr.out) n (by rw [hOl.out]; exact hlt)
          have c6 : wr.cell? ⟨pp, 6, none⟩ = some (fv 27 #[PP b]) := (blk_cell (blk_below hX.out hbr.out) 6).trans rfl
          rw [hIn.out] at hcI
          rw [hOn.out] at hcO
          generalize (may l (nE es)).vin O n = v at *
          have hfl2 := fun k => hfl (wr.drewN k) v (below_step hbr.out (pw_below_drewN (Below.refl _ _) k))
          simp only [hfe.out v] at hfl2
          generalize (may l (nE es)).flow n v = wv at *
          have e1 : (iv v != iv v) = false := by simp
          have e2 : (iv wv != iv wv) = false := by simp
          go_upto_region 16 with (fail)
          go_quiet ((go_at_call 27; refine Calls.quiet_of (hfl2 _).out))
          go_wp2_with fail
          go_roundw
          case rel => exact ⟨n + 1, rfl, by go_num, by omega, ⟨below_step hbr.out (pw_below_drewN (Below.refl _ _) _)⟩⟩
          case measure => simp [intOf]; omega
    · obtain rfl : n = l.length := by omega
      go_wp2_with (go_at_call 8; (with_reducible refine (awake_ _).mono ?_); rintro e w6 ⟨rfl, hb6⟩; replace hb6 := Aside0.mk hb6)
      go_ret
      exact ⟨rfl, below_step (below_step hB2.out hbr.out) hb6.out⟩
theorem fixed {w : World} (A : Option Addr) (l : List Nd) (c : Nat) (hNn : kN.C w A l.length l) (A1 : Option Addr) (es : List (Int × Int)) (c1 : Nat) (hE : kE.C w A1 es.length es) :
    Calls Try.prog 5 #[.slice A l.length c, .slice A1 es.length c1] w fun e w' => e = .returned (.bool true) ∧ Below w.heap.size w w' := by
  by_cases h : 64 < l.length ∨ 256 < es.length
  · exact fixed_big A _ c A1 _ c1 h (Kd.C_max hNn) (Kd.C_max hE)
  · cases hok : allOk l.length es
    · exact fixed_no A l c ⟨hNn⟩ A1 es c1 ⟨hE⟩ (by omega) (by omega) hok
    · exact fixed_yes A l c ⟨hNn⟩ A1 es c1 ⟨hE⟩ (by omega) (by omega) hok
end Go.Proofs.Ytfdhpogpeajifaa.Lat
