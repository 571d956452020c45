/- Texts laid together for a claim. -/
import Derived.Test.YtobikiffjanagaaCp3
section
namespace Go.Proofs.Ytobikiffjanagaa.IrA
open Go.RowKit Go.Proofs.YtobikiffjanagaaW.PrintWords Go.Proofs.YtobikiffjanagaaW.PrintLast Go.Proofs.YtobikiffjanagaaW.PrintMore Go.Proofs.Ytobikiffjanagaa.GF
set_option linter.unusedVariables false
set_option linter.unusedSimpArgs false
def argR (x : S44) : Bool := !(pt x.f0).is || (decide (0 ≤ (pt x.f0).n) && (x.f2.length : Int) != (pt x.f0).n)
def dstR (re : Int) (x : S44) : Bool := (decide (rdn x.f0 < 0) && x.f1 != -1) || ((rdn x.f0 == 1 && !wi x.f1 0 (re - 1)) || (rdn x.f0 == 0 && (x.f1 != -1 && !wi x.f1 0 (re - 1))))
def aluR (x : S44) : Bool := (x.f0 == 3 && (decide (x.f4 < 1) || decide (19 < x.f4))) || (x.f0 != 3 && x.f4 != 0)
def wdR (x : S44) : Bool := x.f0 == 6 || x.f0 == 7
def wideR (x : S44) : Bool := (wdR x && (x.f5 != 1 && x.f5 != 4)) || (!wdR x && x.f5 != 0)
def predR (x : S44) : Bool := x.f0 != 12 && decide (0 < x.f6.length)
def rinB (re : Int) (fs : List S33) (glob sl : Int) (x : S44) : Bool := !argR x && (!dstR re x && ((x.f2.all fun r => wi r 0 (re - 1)) && (!aluR x && (!wideR x && (!predR x && immB fs glob sl x (pt x.f0).i)))))
structure Sr (w : World) (A0 A2 A8 B2 B6 : Option Addr) (n0 c0 n2 c2 n8 c8 d2 d6 : Nat) (glob main pa re sl : Int) (nm : ByteArray) (x : S44) (W : World) : Prop where
  hP : W.heap[w.heap.size]? = some (pb A0 n0 c0 glob A2 n2 c2 main)
  hF : W.heap[w.heap.size + 1]? = some (fb nm pa re sl A8 n8 c8)
  hI : W.heap[w.heap.size + 1 + 1]? = some (ib x B2 B6 d2 d6)
  hB : Below w.heap.size w W
variable {w W : World} {A0 A2 A8 B2 B6 : Option Addr} {n0 c0 n2 c2 n8 c8 d2 d6 : Nat} {glob main pa re sl : Int} {nm : ByteArray} {fs : List S33} {bs : List S58} {x : S44}
theorem Sr.next {W' : World} (h : Sr w A0 A2 A8 B2 B6 n0 c0 n2 c2 n8 c8 d2 d6 glob main pa re sl nm x W) (b : Below W.heap.size W W') : Sr w A0 A2 A8 B2 B6 n0 c0 n2 c2 n8 c8 d2 d6 glob main pa re sl nm x W' :=
  ⟨(b.block _ (blk_lt h.hP)).trans h.hP, (b.block _ (blk_lt h.hF)).trans h.hF, (b.block _ (blk_lt h.hI)).trans h.hI, below_step h.hB b⟩
theorem Sr.cells (h : Sr w A0 A2 A8 B2 B6 n0 c0 n2 c2 n8 c8 d2 d6 glob main pa re sl nm x W) :
    (W.cell? ⟨w.heap.size, 0, none⟩ = some (.slice A0 n0 c0) ∧ W.cell? ⟨w.heap.size, 1, none⟩ = some (.int .i64 glob) ∧ W.cell? ⟨w.heap.size, 2, none⟩ = some (.slice A2 n2 c2) ∧ W.cell? ⟨w.heap.size, 3, none⟩ = some (.int .i64 main)) ∧
    (W.cell? ⟨w.heap.size + 1, 0, none⟩ = some (.string nm) ∧ W.cell? ⟨w.heap.size + 1, 1, none⟩ = some (.int .i64 pa) ∧ W.cell? ⟨w.heap.size + 1, 2, none⟩ = some (.int .i64 re) ∧ W.cell? ⟨w.heap.size + 1, 3, none⟩ = some (.int .i64 sl) ∧ W.cell? ⟨w.heap.size + 1, 4, none⟩ = some (.slice A8 n8 c8)) ∧
    (W.cell? ⟨w.heap.size + 1 + 1, 0, none⟩ = some (.int .i64 x.f0) ∧ W.cell? ⟨w.heap.size + 1 + 1, 1, none⟩ = some (.int .i64 x.f1) ∧ W.cell? ⟨w.heap.size + 1 + 1, 2, none⟩ = some (.slice B2 x.f2.length d2) ∧ W.cell? ⟨w.heap.size + 1 + 1, 3, none⟩ = some (.int .i32 x.f3) ∧ W.cell? ⟨w.heap.size + 1 + 1, 4, none⟩ = some (.int .i64 x.f4) ∧ W.cell? ⟨w.heap.size + 1 + 1, 5, none⟩ = some (.int .i64 x.f5) ∧ W.cell? ⟨w.heap.size + 1 + 1, 6, none⟩ = some (.slice B6 x.f6.length d6)) :=
  ⟨⟨(blk_cell h.hP 0).trans rfl, (blk_cell h.hP 1).trans rfl, (blk_cell h.hP 2).trans rfl, (blk_cell h.hP 3).trans rfl⟩, ⟨(blk_cell h.hF 0).trans rfl, (blk_cell h.hF 1).trans rfl, (blk_cell h.hF 2).trans rfl, (blk_cell h.hF 3).trans rfl, (blk_cell h.hF 4).trans rfl⟩, ⟨(blk_cell h.hI 0).trans rfl, (blk_cell h.hI 1).trans rfl, (blk_cell h.hI 2).trans rfl, (blk_cell h.hI 3).trans rfl, (blk_cell h.hI 4).trans rfl, (blk_cell h.hI 5).trans rfl, (blk_cell h.hI 6).trans rfl⟩⟩
set_option maxHeartbeats 16000000 in
set_option maxRecDepth 100000 in
theorem rinstr (n8 : Nat) (x : S44) (B2 B6 : Option Addr) (d2 d6 : Nat) (h0 : -2147483648 ≤ x.f3) (h1 : x.f3 ≤ 2147483647) (hn : fs.length = n0) (hf : Aside0 (Kd.C k33 w A0 n0 fs)) (h2 : Aside0 (Kd.C (Kd.int .i64) w B2 x.f2.length x.f2)) :
    Calls Try.prog 29 #[pv A0 n0 c0 glob A2 n2 c2 main, fv nm pa re sl A8 n8 c8, iv x B2 B6 d2 d6] w (RetB (.bool (rinB re fs glob sl x)) w) := by
  have hst : Aside0 (Sr w A0 A2 A8 B2 B6 n0 c0 n2 c2 n8 c8 d2 d6 glob main pa re sl nm x (((w.alloc (pb A0 n0 c0 glob A2 n2 c2 main)).alloc (fb nm pa re sl A8 n8 c8)).alloc (ib x B2 B6 d2 d6))) := ⟨by
    have e1 := blk_new (w.alloc (pb A0 n0 c0 glob A2 n2 c2 main)) (fb nm pa re sl A8 n8 c8)
    have e2 := blk_new ((w.alloc (pb A0 n0 c0 glob A2 n2 c2 main)).alloc (fb nm pa re sl A8 n8 c8)) (ib x B2 B6 d2 d6)
    simp only [World.size_alloc] at e1 e2
    exact ⟨blk_alloc (blk_alloc (blk_new w _) _) _, blk_alloc e1 _, e2, below_alloc (below_alloc (below_alloc (Below.refl _ _) _) _) _⟩⟩
  have hmx := Kd.C_max h2.out
  have hmxf := Kd.C_max hf.out
  have hsh := Aside0.mk (fun W => rshape x.f0 W)
  have hR : Aside0 (rinB re fs glob sl x = (!argR x && (!dstR re x && ((x.f2.all fun r => wi r 0 (re - 1)) && (!aluR x && (!wideR x && (!predR x && immB fs glob sl x (pt x.f0).i))))))) := ⟨rfl⟩
  have hargR : argR x = (!(pt x.f0).is || (decide (0 ≤ (pt x.f0).n) && (x.f2.length : Int) != (pt x.f0).n)) := rfl
  have hdstR : dstR re x = ((decide (rdn x.f0 < 0) && x.f1 != -1) || ((rdn x.f0 == 1 && !wi x.f1 0 (re - 1)) || (rdn x.f0 == 0 && (x.f1 != -1 && !wi x.f1 0 (re - 1))))) := rfl
  replace hargR := Aside0.mk hargR
  replace hdstR := Aside0.mk hdstR
  go_enter Try.func29, Try.ntmps29
  go_upto_region 2 with ((with_reducible refine ((hsh.out _).call).mono ?_); rintro e w' ⟨rfl, rfl⟩)
  generalize hWe : ((w.alloc (pb A0 n0 c0 glob A2 n2 c2 main)).alloc (fb nm pa re sl A8 n8 c8)).alloc (ib x B2 B6 d2 d6) = W0 at *
  clear hWe
  obtain ⟨-, ⟨y0, y1, y2, y3, y4⟩, ⟨a0, a1, a2, a3, a4, a5, a6⟩⟩ := hst.out.cells
  go_cut [31] (fun s31 wx => s31 = .bool (argR x) ∧ W0 = wx)
  case first =>
    have hargR' := hargR.out
    clear hR hdstR hsh hargR
    generalize (pt x.f0).is = is at *
    generalize (pt x.f0).n = n at *
    generalize argR x = T at *
    cases is
    · have hT : Aside0 (T = true) := ⟨by rw [hargR']; rfl⟩
      clear hargR'
      go_wp2_with fail
      go_meet
      exact ⟨by rw [hT.out], rfl⟩
    · by_cases hn0 : 0 ≤ n
      · cases hx : ((x.f2.length : Int) != n)
        all_goals
          have hT : Aside0 (T = ((x.f2.length : Int) != n)) := ⟨by rw [hargR']; simp [hn0]⟩
          rw [hx] at hT
          have hx2 : ((x.f2.length : Int) == n) = !((x.f2.length : Int) != n) := by simp [bne]
          rw [hx] at hx2
          clear hargR'
          go_wp2_with fail
          go_meet
          exact ⟨by rw [hT.out], rfl⟩
      · have hT : Aside0 (T = false) := ⟨by rw [hargR']; simp [hn0]⟩
        clear hargR'
        go_wp2_with fail
        go_meet
        exact ⟨by rw [hT.out], rfl⟩
  case rest =>
    obtain ⟨rfl, rfl⟩ := hcut
    clear hargR hsh
    generalize argR x = T at *
    cases T
    · go_upto_region 4 with (fail)
      go_cut [65] (fun s65 wx => s65 = .bool (dstR re x) ∧ Aside0 (Below W0.heap.size W0 wx))
      case first =>
        have hdstR' := hdstR.out
        clear hR hdstR
        generalize rdn x.f0 = d at *
        generalize dstR re x = T at *
        cases hm : (x.f1 != -1)
        all_goals
          rw [hm] at hdstR'
          cases hz : wi x.f1 0 (re - 1)
        all_goals
          have hr := Aside0.mk (rreg' (w := W0) hz nm pa sl A8 n8 c8)
          rw [hz] at hdstR'
          by_cases k0 : d < 0
          · have hT : Aside0 (T = ((decide (d < 0) && true) && (x.f1 != -1))) := ⟨by
              rw [hdstR', show (d == 1) = false by simp; omega, show (d == 0) = false by simp; omega, hm]; simp⟩
            rw [hm, show decide (d < 0) = true by simp [k0]] at hT
            have d1 : (d == 1) = false := by simp; omega
            have d0 : (d == 0) = false := by simp; omega
            clear hdstR' hr hz
            go_wp2_with fail
            go_meet
            exact ⟨by rw [hT.out]; rfl, ⟨Below.refl _ _⟩⟩
          · by_cases k1 : d = 1
            · have hT : Aside0 (T = !(wi x.f1 0 (re - 1))) := ⟨by rw [hdstR', hz]; simp [k1]⟩
              rw [hz] at hT
              have d1 : (d == 1) = true := by simp [k1]
              have d0 : (d == 0) = false := by simp [k1]
              clear hdstR' hz k1
              go_wp2_with fail
              (with_reducible refine hr.out.mono ?_)
              rintro e w5 ⟨rfl, hb5⟩
              have hb5 := Aside0.mk hb5
              go_wp2_with fail
              go_meet
              exact ⟨by rw [hT.out]; rfl, hb5⟩
            · have d1 : (d == 1) = false := by simp [k1]
              by_cases k2 : d = 0
              · have hT : Aside0 (T = ((x.f1 != -1) && !(wi x.f1 0 (re - 1)))) := ⟨by rw [hdstR', hz, hm]; simp [k2]⟩
                rw [hz, hm] at hT
                have d0 : (d == 0) = true := by simp [k2]
                clear hdstR' hz k1 k2
                first
                  | (go_wp2_with fail
                     (with_reducible refine hr.out.mono ?_)
                     rintro e w5 ⟨rfl, hb5⟩
                     have hb5 := Aside0.mk hb5
                     go_wp2_with fail
                     go_meet
                     exact ⟨by rw [hT.out]; rfl, hb5⟩)
                  | (go_wp2_with fail
                     go_meet
                     exact ⟨by rw [hT.out]; rfl, ⟨Below.refl _ _⟩⟩)
              · have hT : Aside0 (T = false) := ⟨by rw [hdstR']; simp [k0, k1, k2]⟩
                have d0 : (d == 0) = false := by simp [k2]
                clear hdstR' hz hr k1 k2
                go_wp2_with fail
                go_meet
                exact ⟨by rw [hT.out], ⟨Below.refl _ _⟩⟩
      case rest =>
        obtain ⟨rfl, hb5⟩ := hcut
        clear hdstR
        have hst5 := Aside0.mk (hst.out.next hb5.out)
        clear hst hb5 y0 y1 y2 y3 y4 a0 a1 a2 a3 a4 a5 a6
        rename_i w5
        generalize dstR re x = T at *
        cases T
        · have hR2 : Aside0 (rinB re fs glob sl x = ((x.f2.all fun r => wi r 0 (re - 1)) && (!aluR x && (!wideR x && (!predR x && immB fs glob sl x (pt x.f0).i))))) := ⟨by rw [hR.out]; rfl⟩
          clear hR
          generalize hR3 : (!aluR x && (!wideR x && (!predR x && immB fs glob sl x (pt x.f0).i))) = R3 at *
          replace hR3 := Aside0.mk hR3
          obtain ⟨-, -, ⟨-, -, a2, -⟩⟩ := hst5.out.cells
          go_wp2
          clear a2
          go_loopw [10] (fun i wr => ∃ j : Nat, j ≤ x.f2.length ∧ i = .int .i64 j ∧ Aside0 (Sr w A0 A2 A8 B2 B6 n0 c0 n2 c2 n8 c8 d2 d6 glob main pa re sl nm x wr) ∧ Aside0 (((x.f2.take j).all fun r => wi r 0 (re - 1)) = true)) (fun i _ => x.f2.length - (intOf i).toNat)
          case atStart => exact ⟨0, by omega, rfl, hst5, ⟨rfl⟩⟩
          case round =>
            obtain ⟨j, hj, rfl, hst6, ht⟩ := hrel
            clear hst5
            obtain ⟨-, ⟨y0, y1, y2, y3, y4⟩, ⟨a0, a1, a2, a3, a4, a5, a6⟩⟩ := hst6.out.cells
            by_cases hlt : j < x.f2.length
            · obtain ⟨ad, e, q0⟩ := Kd.at_int h2.out j (by omega) (by omega)
              cases e
              simp only [Int.toNat_natCast] at q0
              replace q0 := (hst6.out.hB.cell (World.block_lt_of_cell? w _ q0)).trans q0
              have hstp := all_take (p := fun t => wi t 0 (re - 1)) hlt
              have hno := all_no (p := fun t => wi t 0 (re - 1)) hlt
              generalize rd x.f2 (j : Int) = y at *
              try dsimp only at hstp hno
              have hst7 := Aside0.mk (hst6.out.next (show Below wr.heap.size wr wr.drew from ⟨rfl, rfl, rfl, Nat.le_refl _, fun _ _ => rfl⟩))
              cases hv : wi y 0 (re - 1)
              · have hr := Aside0.mk (rreg' (w := wr.drew) hv nm pa sl A8 n8 c8)
                have hend : Aside0 (rinB re fs glob sl x = false) := ⟨by rw [hR2.out, hno hv]; rfl⟩
                clear hstp hno hst6 ht hv
                go_wp2
                go_still_tail 6, (by kernel_rfl)
                change wpList _ _ _ _ _ wr.drew
                go_wp2_with fail
                (with_reducible refine hr.out.mono ?_)
                rintro e w6 ⟨rfl, hb6⟩
                have hst8 := Aside0.mk (hst7.out.next hb6)
                clear hb6
                go_wp2
                go_ret
                rw [hend.out]
                exact ⟨rfl, hst8.out.hB⟩
              · have hr := Aside0.mk (rreg' (w := wr.drew) hv nm pa sl A8 n8 c8)
                have ht2 : Aside0 (((x.f2.take (j + 1)).all fun r => wi r 0 (re - 1)) = true) := ⟨by rw [hstp, ht.out, hv]; rfl⟩
                clear hstp hno hst6 ht hv
                go_wp2
                go_still_tail 6, (by kernel_rfl)
                change wpList _ _ _ _ _ wr.drew
                go_wp2_with fail
                (with_reducible refine hr.out.mono ?_)
                rintro e w6 ⟨rfl, hb6⟩
                have hst8 := Aside0.mk (hst7.out.next hb6)
                clear hb6
                go_wp2
                exact ⟨⟨j + 1, by omega, by go_num, hst8, ht2⟩, by simp [intOf]; omega⟩
            · obtain rfl : j = x.f2.length := by omega
              have hend : Aside0 (rinB re fs glob sl x = R3) := ⟨by have := ht.out; rw [List.take_length] at this; rw [hR2.out, this]; rfl⟩
              clear ht hR2
              go_upto_region 11 with (fail)
              go_cut [103] (fun s103 wx => s103 = .bool (aluR x) ∧ wr = wx)
              case first =>
                have hT : Aside0 (aluR x = ((x.f0 == 3 && (decide (x.f4 < 1) || decide (19 < x.f4))) || (x.f0 != 3 && x.f4 != 0))) := ⟨rfl⟩
                clear hend hR3
                generalize aluR x = T at *
                cases h3 : (x.f0 == 3)
                · have h3n : (x.f0 != 3) = true := by rw [show (x.f0 != 3) = !(x.f0 == 3) from rfl, h3]; rfl
                  rw [h3, h3n] at hT
                  cases h40 : (x.f4 != 0)
                  all_goals
                    rw [h40] at hT
                    go_wp2_with fail
                    go_meet
                    exact ⟨by rw [hT.out]; rfl, rfl⟩
                · have h3n : (x.f0 != 3) = false := by rw [show (x.f0 != 3) = !(x.f0 == 3) from rfl, h3]; rfl
                  rw [h3, h3n] at hT
                  by_cases k1 : x.f4 < 1
                  · rw [show decide (x.f4 < 1) = true by simp [k1]] at hT
                    go_wp2_with fail
                    go_meet
                    exact ⟨by rw [hT.out]; rfl, rfl⟩
                  · rw [show decide (x.f4 < 1) = false by simp [k1]] at hT
                    by_cases k2 : 19 < x.f4
                    · rw [show decide (19 < x.f4) = true by simp [k2]] at hT
                      go_wp2_with fail
                      go_meet
                      exact ⟨by rw [hT.out]; rfl, rfl⟩
                    · rw [show decide (19 < x.f4) = false by simp [k2]] at hT
                      go_wp2_with fail
                      go_meet
                      exact ⟨by rw [hT.out]; rfl, rfl⟩
              case rest =>
                obtain ⟨rfl, rfl⟩ := hcut
                generalize aluR x = T at *
                cases T
                · go_upto_region 13 with (fail)
                  go_cut [11] (fun s11 wx => s11 = .bool (wdR x) ∧ wr = wx)
                  case first =>
                    have hT : Aside0 (wdR x = (x.f0 == 6 || x.f0 == 7)) := ⟨rfl⟩
                    clear hend hR3
                    generalize wdR x = T at *
                    cases h6 : (x.f0 == 6)
                    all_goals
                      rw [h6] at hT
                      go_wp2_with fail
                      go_meet
                      exact ⟨by rw [hT.out]; rfl, rfl⟩
                  case rest =>
                    obtain ⟨rfl, rfl⟩ := hcut
                    have hwide : Aside0 (wideR x = ((wdR x && (x.f5 != 1 && x.f5 != 4)) || (!wdR x && x.f5 != 0))) := ⟨rfl⟩
                    generalize wdR x = wd at *
                    go_upto_region 14 with (fail)
                    go_cut [131] (fun s131 wx => s131 = .bool (wideR x) ∧ wr = wx)
                    case first =>
                      clear hend hR3
                      generalize wideR x = T at *
                      cases wd
                      all_goals
                        cases k1 : (x.f5 != 1)
                      all_goals
                        cases k4 : (x.f5 != 4)
                      all_goals
                        cases k0 : (x.f5 != 0)
                      all_goals
                        rw [k1, k4, k0] at hwide
                        go_wp2_with fail
                        go_meet
                        exact ⟨by rw [hwide.out]; rfl, rfl⟩
                    case rest =>
                      obtain ⟨rfl, rfl⟩ := hcut
                      clear hwide
                      generalize wideR x = T at *
                      cases T
                      · go_upto_region 16 with (fail)
                        go_cut [140] (fun s140 wx => s140 = .bool (predR x) ∧ wr = wx)
                        case first =>
                          have hT : Aside0 (predR x = (x.f0 != 12 && decide (0 < x.f6.length))) := ⟨rfl⟩
                          clear hend hR3
                          generalize predR x = T at *
                          cases h12 : (x.f0 != 12)
                          · rw [h12] at hT
                            go_wp2_with fail
                            go_meet
                            exact ⟨by rw [hT.out]; rfl, rfl⟩
                          · rw [h12] at hT
                            by_cases k : 0 < x.f6.length
                            · rw [show decide (0 < x.f6.length) = true by simp [k]] at hT
                              have k2 : decide ((0 : Int) < (x.f6.length : Int)) = true := decide_eq_true (by omega)
                              have k3 : decide (0 < x.f6.length) = true := decide_eq_true (by omega)
                              go_wp2_with fail
                              go_meet
                              exact ⟨by rw [hT.out]; rfl, rfl⟩
                            · rw [show decide (0 < x.f6.length) = false by simp [k]] at hT
                              have k2 : decide ((0 : Int) < (x.f6.length : Int)) = false := decide_eq_false (by omega)
                              have k3 : decide (0 < x.f6.length) = false := decide_eq_false (by omega)
                              clear k
                              go_wp2_with fail
                              go_meet
                              exact ⟨by rw [hT.out]; rfl, rfl⟩
                        case rest =>
                          obtain ⟨rfl, rfl⟩ := hcut
                          generalize predR x = T at *
                          cases T
                          · have hres : Aside0 (R3 = immB fs glob sl x (pt x.f0).i) := ⟨by rw [← hR3.out]; rfl⟩
                            obtain ⟨⟨z0, z1, z2, z3⟩, -, -⟩ := hst6.out.cells
                            have him := Aside0.mk (rimm (w := wr) (A0 := A0) (A2 := A2) (A8 := A8) (c0 := c0) (n2 := n2) (c2 := c2) (c8 := c8) (glob := glob) (main := main) (pa := pa) (re := re) (sl := sl) (nm := nm) n8 x B2 B6 d2 d6 h0 h1 hn ⟨Kd.C_below hf.out hst6.out.hB⟩)
                            rw [← hres.out, ← hend.out] at him
                            go_wp2_with fail
                            (with_reducible refine him.out.mono ?_)
                            rintro e w6 ⟨rfl, hb6⟩
                            have hB8 := Aside0.mk (below_step hst6.out.hB hb6)
                            clear hb6
                            go_wp2
                            go_ret
                            exact ⟨rfl, hB8.out⟩
                          · have hres : Aside0 (R3 = false) := ⟨by rw [← hR3.out]; rfl⟩
                            go_wp2
                            go_ret
                            rw [hend.out, hres.out]
                            exact ⟨rfl, hst6.out.hB⟩
                      · have hres : Aside0 (R3 = false) := ⟨by rw [← hR3.out]; rfl⟩
                        go_wp2
                        go_ret
                        rw [hend.out, hres.out]
                        exact ⟨rfl, hst6.out.hB⟩
                · have hres : Aside0 (R3 = false) := ⟨by rw [← hR3.out]; rfl⟩
                  go_wp2
                  go_ret
                  rw [hend.out, hres.out]
                  exact ⟨rfl, hst6.out.hB⟩
        · have hres : Aside0 (rinB re fs glob sl x = false) := ⟨by rw [hR.out]; simp⟩
          go_wp2
          go_ret
          rw [hres.out]
          exact ⟨rfl, hst5.out.hB⟩
    · have hres : Aside0 (rinB re fs glob sl x = false) := ⟨by rw [hR.out]; rfl⟩
      go_wp2
      go_ret
      rw [hres.out]
      exact ⟨rfl, hst.out.hB⟩
end Go.Proofs.Ytobikiffjanagaa.IrA
end
