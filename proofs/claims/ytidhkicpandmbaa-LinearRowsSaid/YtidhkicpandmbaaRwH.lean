/- How many blocks fall: the program's and the reference's count. -/
import Derived.Test.YtidhkicpandmbaaRwG
namespace Go.Proofs.Ytidhkicpandmbaa.RwB
open Go.RowKit Go.Shelf Go.Proofs.YtidhkicpandmbaaW.PrintWords Go.Proofs.YtidhkicpandmbaaW.PrintLast Go.Proofs.YtidhkicpandmbaaW.PrintMore Go.Proofs.Ytidhkicpandmbaa.GF Go.Proofs.Ytidhkicpandmbaa.IrA Go.Proofs.Ytidhkicpandmbaa.RwA Go.Proofs.Ytidhkicpandmbaa.RwB Go.Proofs.Ytidhkicpandmbaa.RwC
set_option linter.unusedVariables false
set_option linter.unusedSimpArgs false
def inN (n : Nat) (x : Int) : Bool := decide (0 ≤ x) && decide (x < n)
def cntTo (To : Nat → List Int) (row : List Int) : Nat → Nat
  | 0 => 0
  | k + 1 => cntTo To row k + if row.getD (k + 1) 0 ∈ To (row.getD k 0).toNat then 1 else 0
def fallsN (n : Nat) (To : Nat → List Int) (row : List Int) : Nat := if row.all (inN n) = true then cntTo To row (row.length - 1) else 0
theorem cntTo_le (To : Nat → List Int) (row : List Int) : ∀ k, cntTo To row k ≤ k
  | 0 => Nat.le_refl _
  | k + 1 => by have := cntTo_le To row k; unfold cntTo; split <;> omega
theorem cntTo_yes {To : Nat → List Int} {row : List Int} {k : Nat} (h : row.getD (k + 1) 0 ∈ To (row.getD k 0).toNat) : cntTo To row (k + 1) = cntTo To row k + 1 := by
  show _ + _ = _
  rw [if_pos h]
theorem cntTo_no {To : Nat → List Int} {row : List Int} {k : Nat} (h : ¬ row.getD (k + 1) 0 ∈ To (row.getD k 0).toNat) : cntTo To row (k + 1) = cntTo To row k := by
  show _ + _ = _
  rw [if_neg h]; rfl
set_option maxHeartbeats 4000000 in
set_option maxRecDepth 100000 in
theorem fallsL {w : World} (nm : ByteArray) (pa re sl : Int) (A A1 : Option Addr) (c c1 : Nat) (bs : List S39) (row : List Int) (hl : Aside0 (Kd.C k39 w A bs.length bs)) (hr : Aside0 (Kd.C (Kd.int .i64) w A1 row.length row)) (hrl : row.length ≤ 4611686018427387904) :
    Calls Try.prog 15 #[fv nm pa re sl A bs.length c, .slice A1 row.length c1] w (RetB (.int .i64 (fallsN bs.length (ToB bs) row : Int)) w) := by
  have hmr := Kd.C_max hr.out
  have hmx := Kd.C_max hl.out
  have hX : Aside0 ((w.alloc (fb nm pa re sl A bs.length c)).heap[w.heap.size]? = some (fb nm pa re sl A bs.length c)) := ⟨blk_new w _⟩
  have hB : Aside0 (Below w.heap.size w (w.alloc (fb nm pa re sl A bs.length c))) := ⟨below_alloc (Below.refl _ _) _⟩
  go_enter Try.func15, Try.ntmps15
  go_wp2
  generalize w.alloc (Obj.cells #[Value.string nm, Value.int IntKind.i64 pa, Value.int IntKind.i64 re, Value.int IntKind.i64 sl, Value.slice A bs.length c] 28) = W at *
  go_loopw [11] (fun i wr => ∃ j : Nat, j ≤ row.length ∧ i = .int .i64 (j : Int) ∧ Aside0 ((row.take j).all (inN bs.length) = true) ∧ Aside0 (Below w.heap.size w wr) ∧ Aside0 (wr.heap[w.heap.size]? = some (fb nm pa re sl A bs.length c))) (fun i _ => row.length - (intOf i).toNat)
  case atStart => exact ⟨0, by omega, rfl, ⟨rfl⟩, hB, hX⟩
  case round =>
    obtain ⟨j, hj, rfl, ha, hB3, hX3⟩ := hrel
    clear hB hX
    have y4 : wr.cell? ⟨w.heap.size, 4, none⟩ = some (.slice A bs.length c) := (blk_cell hX3.out 4).trans rfl
    by_cases hlt : j < row.length
    · obtain ⟨a1, e, r0⟩ := Kd.at_int hr.out (j : Int) (by omega) (by omega)
      cases e
      rw [Int.toNat_natCast] at r0
      replace r0 := (hB3.out.cell (World.block_lt_of_cell? w _ r0)).trans r0
      have hst := Aside0.mk (all_take (p := inN bs.length) hlt)
      have hno := Aside0.mk (fun h => all_no (p := inN bs.length) hlt h)
      generalize rd row (j : Int) = y at *
      have q1 : (j : Int) < (row.length : Int) := by omega
      by_cases h1 : y < 0
      · have hf : Aside0 (fallsN bs.length (ToB bs) row = 0) := ⟨by unfold fallsN; rw [hno.out (by unfold inN; rw [decide_eq_false (by omega)]; rfl)]; rfl⟩
        clear hno hst
        go_wp2_with fail
        go_ret
        exact ⟨by rw [hf.out]; rfl, hB3.out⟩
      by_cases h2 : (bs.length : Int) ≤ y
      · have hf : Aside0 (fallsN bs.length (ToB bs) row = 0) := ⟨by unfold fallsN; rw [hno.out (by unfold inN; rw [decide_eq_false (show ¬ y < (bs.length : Int) by omega), Bool.and_false])]; rfl⟩
        have h3 : 0 ≤ y := by omega
        clear hno hst h1
        go_wp2_with fail
        go_ret
        exact ⟨by rw [hf.out]; rfl, hB3.out⟩
      · have h3 : 0 ≤ y := by omega
        have h4 : y < (bs.length : Int) := by omega
        have ha2 : Aside0 ((row.take (j + 1)).all (inN bs.length) = true) := ⟨by rw [hst.out, ha.out]; unfold inN; simp [h3, h4]⟩
        clear hno hst h1 h2
        go_wp2_with fail
        go_roundw
        case rel => exact ⟨j + 1, by omega, by go_num, ha2, hB3, hX3⟩
        case measure => simp [intOf]; omega
    · obtain rfl : j = row.length := by omega
      rw [List.take_length] at ha
      have hfn : Aside0 (fallsN bs.length (ToB bs) row = cntTo (ToB bs) row (row.length - 1)) := ⟨by unfold fallsN; rw [ha.out]; rfl⟩
      have hall : Aside0 (∀ x ∈ row, 0 ≤ x ∧ x < bs.length) := ⟨fun x hx => by
        have := List.all_eq_true.1 ha.out x hx
        unfold inN at this
        simpa using this⟩
      go_wp2_with fail
      clear y4
      obtain ⟨W5, hW5⟩ : ∃ W5, W5 = wr := ⟨_, rfl⟩
      rw [← hW5] at hB3 hX3 ⊢
      clear hW5
      go_loopw [5, 8] (fun z i wq => ∃ (j : Nat), (j ≤ row.length - 1) ∧ i = .int .i64 (j : Int) ∧ z = .int .i64 (cntTo (ToB bs) row j : Int) ∧ Aside0 (Below w.heap.size w wq) ∧ Aside0 (wq.heap[w.heap.size]? = some (fb nm pa re sl A bs.length c))) (fun _ i _ => row.length - (intOf i).toNat)
      case atStart => exact ⟨0, by omega, rfl, rfl, hB3, hX3⟩
      case round =>
        obtain ⟨j, hj2, rfl, rfl, hB5, hX5⟩ := hrel
        clear hB3 hX3
        have hcl := cntTo_le (ToB bs) row j
        obtain ⟨p, hp⟩ : ∃ p : Int, p = (j : Int) + 1 := ⟨_, rfl⟩
        have w1 : IntKind.i64.wrap ((j : Int) + 1) = p := by rw [hp]; exact IntWalk.i64_in _ (by omega)
        have w2 : IntKind.i64.wrap ((cntTo (ToB bs) row j : Int) + 1) = (cntTo (ToB bs) row j : Int) + 1 := IntWalk.i64_in _ (by omega)
        by_cases hl2 : j + 1 < row.length
        · have hk0 : rd row (j : Int) = row.getD j 0 := by simp [rd]
          have hk1 : rd row p = row.getD (j + 1) 0 := by unfold rd; rw [show p.toNat = j + 1 by omega]
          have hgk := hall.out _ (getD_mem0 (show j < row.length by omega))
          obtain ⟨a1, e, r0⟩ := Kd.at_int hr.out (j : Int) (by omega) (by omega)
          cases e
          obtain ⟨a2, e, r1⟩ := Kd.at_int hr.out p (by omega) (by omega)
          cases e
          have cy := cntTo_yes (To := ToB bs) (row := row) (k := j)
          have cn := cntTo_no (To := ToB bs) (row := row) (k := j)
          rw [hk0] at r0
          rw [hk1] at r1
          rw [Int.toNat_natCast] at r0
          obtain ⟨m, hm⟩ := Int.eq_ofNat_of_zero_le hgk.1
          rw [hm] at r0 hgk cy cn
          obtain ⟨ad, A0, c0, A3, c3, e, d0, d1, d2, d3, l0, g0, l3, g3⟩ := at_T39 hl.out (m : Int) (by omega) (by omega)
          cases e
          simp only [Int.toNat_natCast] at d0 d1 d2 d3
          have eb : rd_T39 bs (m : Int) = bs.getD m z39 := by simp [rd_T39]
          rw [eb] at d3 g3
          have hto : ToB bs m = (bs.getD m z39).f3 := rfl
          rw [Int.toNat_natCast, hto] at cy cn
          replace cy := Aside0.mk cy
          replace cn := Aside0.mk cn
          replace r0 := (hB5.out.cell (World.block_lt_of_cell? w _ r0)).trans r0
          replace r1 := (hB5.out.cell (World.block_lt_of_cell? w _ r1)).trans r1
          replace d3 := (hB5.out.cell (World.block_lt_of_cell? w _ d3)).trans d3
          have y4 : wr.cell? ⟨w.heap.size, 4, none⟩ = some (.slice (some ad) bs.length c) := (blk_cell hX5.out 4).trans rfl
          have q1 : (m : Int) < (bs.length : Int) := hgk.2
          have q2 : p < (row.length : Int) := by omega
          have q4 : p.toNat < row.length := by omega
          have q5 : (0 : Int) ≤ p := by omega
          replace hp := Aside0.mk hp
          have q7 : (j : Int) < (row.length : Int) := by omega
          clear hk0 hk1 hm hgk eb d0 d1 d2 l0 g0 l3 hto
          generalize row.getD (j + 1) 0 = v at *
          generalize (bs.getD m z39) = b at *
          replace g3 := Aside0.mk (Kd.C_below g3 hB5.out)
          have hct := Aside0.mk (fun (n : Nat) => contains (w := wr.drewN n) (c := c3) v ⟨Kd.C_drewN g3.out n⟩)
          generalize cntTo (ToB bs) row j = z0 at *
          by_cases hv : v ∈ b.f3
          · rw [decide_eq_true hv] at hct
            have hz := Aside0.mk (cy.out hv)
            clear cy cn hv
            go_upto_region 11 with (fail)
            go_quiet ((go_at_call 34; exact Calls.quiet_of_same ((hct.out _).mono fun _ _ h => ⟨h.1, h.2.symm⟩)))
            go_wp2_with fail
            go_roundw
            case rel => exact ⟨j + 1, by omega, by rw [hp.out]; go_num, by rw [hz.out]; go_num, ⟨bdn hB5.out _⟩, hX5⟩
            case measure => have := hp.out; simp [intOf]; omega
          · rw [decide_eq_false hv] at hct
            have hz := Aside0.mk (cn.out hv)
            clear cy cn hv
            go_upto_region 11 with (fail)
            go_quiet ((go_at_call 34; exact Calls.quiet_of_same ((hct.out _).mono fun _ _ h => ⟨h.1, h.2.symm⟩)))
            go_wp2_with fail
            go_roundw
            case rel => exact ⟨j + 1, by omega, by rw [hp.out]; go_num, by rw [hz.out], ⟨bdn hB5.out _⟩, hX5⟩
            case measure => have := hp.out; simp [intOf]; omega
        · have he : Aside0 (fallsN bs.length (ToB bs) row = cntTo (ToB bs) row j) := ⟨by rw [hfn.out]; congr 1; omega⟩
          have q2 : (row.length : Int) ≤ p := by omega
          generalize cntTo (ToB bs) row j = z0 at *
          clear hp
          go_wp2_with fail
          go_ret
          exact ⟨by rw [he.out]; rfl, hB5.out⟩
set_option maxHeartbeats 4000000 in
set_option maxRecDepth 100000 in
theorem fallsR {w : World} (nm : ByteArray) (pa re sl : Int) (A A1 : Option Addr) (c c1 : Nat) (bs : List S39) (row : List Int) (hl : Aside0 (Kd.C k39 w A bs.length bs)) (hr : Aside0 (Kd.C (Kd.int .i64) w A1 row.length row)) (hrl : row.length ≤ 4611686018427387904) :
    Calls Try.prog 16 #[fv nm pa re sl A bs.length c, .slice A1 row.length c1] w (RetB (.int .i64 (fallsN bs.length (ToB bs) row : Int)) w) := by
  have hmr := Kd.C_max hr.out
  have hmx := Kd.C_max hl.out
  have hX : Aside0 ((w.alloc (fb nm pa re sl A bs.length c)).heap[w.heap.size]? = some (fb nm pa re sl A bs.length c)) := ⟨blk_new w _⟩
  have hB : Aside0 (Below w.heap.size w (w.alloc (fb nm pa re sl A bs.length c))) := ⟨below_alloc (Below.refl _ _) _⟩
  go_enter Try.func16, Try.ntmps16
  go_wp2
  generalize w.alloc (Obj.cells #[Value.string nm, Value.int IntKind.i64 pa, Value.int IntKind.i64 re, Value.int IntKind.i64 sl, Value.slice A bs.length c] 28) = W at *
  go_loopw [6] (fun i wr => ∃ j : Nat, j ≤ row.length ∧ i = .int .i64 (j : Int) ∧ Aside0 ((row.take j).all (inN bs.length) = true) ∧ Aside0 (Below w.heap.size w wr) ∧ Aside0 (wr.heap[w.heap.size]? = some (fb nm pa re sl A bs.length c))) (fun i _ => row.length - (intOf i).toNat)
  case atStart => exact ⟨0, by omega, rfl, ⟨rfl⟩, hB, hX⟩
  case round =>
    obtain ⟨j, hj, rfl, ha, hB3, hX3⟩ := hrel
    clear hB hX
    have y4 : wr.cell? ⟨w.heap.size, 4, none⟩ = some (.slice A bs.length c) := (blk_cell hX3.out 4).trans rfl
    by_cases hlt : j < row.length
    · obtain ⟨a1, e, r0⟩ := Kd.at_int hr.out (j : Int) (by omega) (by omega)
      cases e
      rw [Int.toNat_natCast] at r0
      replace r0 := (hB3.out.cell (World.block_lt_of_cell? w _ r0)).trans r0
      have hst := Aside0.mk (all_take (p := inN bs.length) hlt)
      have hno := Aside0.mk (fun h => all_no (p := inN bs.length) hlt h)
      generalize rd row (j : Int) = y at *
      have q1 : (j : Int) < (row.length : Int) := by omega
      by_cases h1 : y < 0
      · have hf : Aside0 (fallsN bs.length (ToB bs) row = 0) := ⟨by unfold fallsN; rw [hno.out (by unfold inN; rw [decide_eq_false (by omega)]; rfl)]; rfl⟩
        clear hno hst
        go_upto_region 5 with (fail)
        go_quiet (fail)
        go_wp2_with fail
        go_ret
        exact ⟨by rw [hf.out]; rfl, bdn hB3.out _⟩
      by_cases h2 : (bs.length : Int) ≤ y
      · have hf : Aside0 (fallsN bs.length (ToB bs) row = 0) := ⟨by unfold fallsN; rw [hno.out (by unfold inN; rw [decide_eq_false (show ¬ y < (bs.length : Int) by omega), Bool.and_false])]; rfl⟩
        have h3 : 0 ≤ y := by omega
        clear hno hst h1
        go_upto_region 5 with (fail)
        go_quiet (fail)
        go_wp2_with fail
        go_ret
        exact ⟨by rw [hf.out]; rfl, bdn hB3.out _⟩
      · have h3 : 0 ≤ y := by omega
        have h4 : y < (bs.length : Int) := by omega
        have ha2 : Aside0 ((row.take (j + 1)).all (inN bs.length) = true) := ⟨by rw [hst.out, ha.out]; unfold inN; simp [h3, h4]⟩
        clear hno hst h1 h2
        go_upto_region 5 with (fail)
        go_quiet (fail)
        go_wp2_with fail
        go_roundw
        case rel => exact ⟨j + 1, by omega, by go_num, ha2, ⟨bdn hB3.out _⟩, hX3⟩
        case measure => simp [intOf]; omega
    · obtain rfl : j = row.length := by omega
      rw [List.take_length] at ha
      have hfn : Aside0 (fallsN bs.length (ToB bs) row = cntTo (ToB bs) row (row.length - 1)) := ⟨by unfold fallsN; rw [ha.out]; rfl⟩
      have hall : Aside0 (∀ x ∈ row, 0 ≤ x ∧ x < bs.length) := ⟨fun x hx => by
        have := List.all_eq_true.1 ha.out x hx
        unfold inN at this
        simpa using this⟩
      go_wp2_with fail
      clear y4
      obtain ⟨W5, hW5⟩ : ∃ W5, W5 = wr := ⟨_, rfl⟩
      rw [← hW5] at hB3 hX3 ⊢
      clear hW5
      go_loopw [5, 7] (fun z i wq => ∃ (j : Nat), (j ≤ row.length - 1) ∧ i = .int .i64 (j : Int) ∧ z = .int .i64 (cntTo (ToB bs) row j : Int) ∧ Aside0 (Below w.heap.size w wq) ∧ Aside0 (wq.heap[w.heap.size]? = some (fb nm pa re sl A bs.length c))) (fun _ i _ => row.length - (intOf i).toNat)
      case atStart => exact ⟨0, by omega, rfl, rfl, hB3, hX3⟩
      case round =>
        obtain ⟨j, hj2, rfl, rfl, hB5, hX5⟩ := hrel
        clear hB3 hX3
        have hcl := cntTo_le (ToB bs) row j
        obtain ⟨p, hp⟩ : ∃ p : Int, p = (j : Int) + 1 := ⟨_, rfl⟩
        have w1 : IntKind.i64.wrap ((j : Int) + 1) = p := by rw [hp]; exact IntWalk.i64_in _ (by omega)
        have w2 : IntKind.i64.wrap ((cntTo (ToB bs) row j : Int) + 1) = (cntTo (ToB bs) row j : Int) + 1 := IntWalk.i64_in _ (by omega)
        by_cases hl2 : j + 1 < row.length
        · have hk0 : rd row (j : Int) = row.getD j 0 := by simp [rd]
          have hk1 : rd row p = row.getD (j + 1) 0 := by unfold rd; rw [show p.toNat = j + 1 by omega]
          have hgk := hall.out _ (getD_mem0 (show j < row.length by omega))
          obtain ⟨a1, e, r0⟩ := Kd.at_int hr.out (j : Int) (by omega) (by omega)
          cases e
          obtain ⟨a2, e, r1⟩ := Kd.at_int hr.out p (by omega) (by omega)
          cases e
          have cy := cntTo_yes (To := ToB bs) (row := row) (k := j)
          have cn := cntTo_no (To := ToB bs) (row := row) (k := j)
          rw [hk0] at r0
          rw [hk1] at r1
          rw [Int.toNat_natCast] at r0
          obtain ⟨m, hm⟩ := Int.eq_ofNat_of_zero_le hgk.1
          rw [hm] at r0 hgk cy cn
          obtain ⟨ad, A0, c0, A3, c3, e, d0, d1, d2, d3, l0, g0, l3, g3⟩ := at_T39 hl.out (m : Int) (by omega) (by omega)
          cases e
          simp only [Int.toNat_natCast] at d0 d1 d2 d3
          have eb : rd_T39 bs (m : Int) = bs.getD m z39 := by simp [rd_T39]
          rw [eb] at d3 g3
          have hto : ToB bs m = (bs.getD m z39).f3 := rfl
          rw [Int.toNat_natCast, hto] at cy cn
          replace cy := Aside0.mk cy
          replace cn := Aside0.mk cn
          replace r0 := (hB5.out.cell (World.block_lt_of_cell? w _ r0)).trans r0
          replace r1 := (hB5.out.cell (World.block_lt_of_cell? w _ r1)).trans r1
          replace d3 := (hB5.out.cell (World.block_lt_of_cell? w _ d3)).trans d3
          have y4 : wr.cell? ⟨w.heap.size, 4, none⟩ = some (.slice (some ad) bs.length c) := (blk_cell hX5.out 4).trans rfl
          have q1 : (m : Int) < (bs.length : Int) := hgk.2
          have q2 : p < (row.length : Int) := by omega
          have q4 : p.toNat < row.length := by omega
          have q5 : (0 : Int) ≤ p := by omega
          replace hp := Aside0.mk hp
          have q7 : (j : Int) < (row.length : Int) := by omega
          clear hk0 hk1 hm hgk eb d0 d1 d2 l0 g0 l3 hto
          generalize row.getD (j + 1) 0 = v at *
          generalize (bs.getD m z39) = b at *
          replace g3 := Aside0.mk (Kd.C_below g3 hB5.out)
          have hct := Aside0.mk (fun (n : Nat) => within21 (w := wr.drewN n) (c := c3) v ⟨Kd.C_drewN g3.out n⟩)
          generalize cntTo (ToB bs) row j = z0 at *
          by_cases hv : v ∈ b.f3
          · rw [decide_eq_true hv] at hct
            have hz := Aside0.mk (cy.out hv)
            clear cy cn hv
            go_upto_region 10 with (fail)
            go_quiet ((go_at_call 35; exact Calls.quiet_of_same ((hct.out _).mono fun _ _ h => ⟨h.1, h.2.symm⟩)))
            go_wp2_with fail
            go_roundw
            case rel => exact ⟨j + 1, by omega, by rw [hp.out]; go_num, by rw [hz.out]; go_num, ⟨bdn hB5.out _⟩, hX5⟩
            case measure => have := hp.out; simp [intOf]; omega
          · rw [decide_eq_false hv] at hct
            have hz := Aside0.mk (cn.out hv)
            clear cy cn hv
            go_upto_region 10 with (fail)
            go_quiet ((go_at_call 35; exact Calls.quiet_of_same ((hct.out _).mono fun _ _ h => ⟨h.1, h.2.symm⟩)))
            go_wp2_with fail
            go_roundw
            case rel => exact ⟨j + 1, by omega, by rw [hp.out]; go_num, by rw [hz.out], ⟨bdn hB5.out _⟩, hX5⟩
            case measure => have := hp.out; simp [intOf]; omega
        · have he : Aside0 (fallsN bs.length (ToB bs) row = cntTo (ToB bs) row j) := ⟨by rw [hfn.out]; congr 1; omega⟩
          have q2 : (row.length : Int) ≤ p := by omega
          generalize cntTo (ToB bs) row j = z0 at *
          clear hp
          go_wp2_with fail
          go_ret
          exact ⟨by rw [he.out]; rfl, hB5.out⟩
end Go.Proofs.Ytidhkicpandmbaa.RwB
