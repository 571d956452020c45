/- The reference's imm and ends. -/
import Derived.Test.YtidhkicpandmbaaIrG
import Derived.Test.YtidhkicpandmbaaIrH
namespace Go.Proofs.Ytidhkicpandmbaa.IrA
open Go.RowKit Go.Proofs.YtidhkicpandmbaaW.PrintWords Go.Proofs.YtidhkicpandmbaaW.PrintLast Go.Proofs.YtidhkicpandmbaaW.PrintMore Go.Proofs.Ytidhkicpandmbaa.GF
set_option linter.unusedVariables false
set_option linter.unusedSimpArgs false
variable {w : World} {A0 A2 A8 : Option Addr} {n0 c0 n2 c2 c8 : Nat} {glob main pa re sl : Int} {nm : ByteArray} {fs : List S28} {bs : List S39}

set_option maxHeartbeats 8000000 in
set_option maxRecDepth 100000 in
theorem rimm (n8 : Nat) (x : S64) (B2 B6 : Option Addr) (d2 d6 : Nat) (h0 : -2147483648 ≤ x.f3) (h1 : x.f3 ≤ 2147483647) (hn : fs.length = n0) (hf : Aside0 (Kd.C k28 w A0 n0 fs)) :
    Calls Try.prog 48 #[pv A0 n0 c0 glob A2 n2 c2 main, fv nm pa re sl A8 n8 c8, iv x B2 B6 d2 d6] w (RetB (.bool (immB fs glob sl x (pt x.f0).i)) w) := by
  have hB : Aside0 (Below w.heap.size w (((w.alloc (pb A0 n0 c0 glob A2 n2 c2 main)).alloc (fb nm pa re sl A8 n8 c8)).alloc (ib x B2 B6 d2 d6))) := ⟨below_alloc (below_alloc (below_alloc (Below.refl _ _) _) _) _⟩
  have hw : IntKind.i64.wrap x.f3 = x.f3 := IntWalk.i64_in _ (by omega)
  have hmx := Kd.C_max hf.out
  by_cases a1 : x.f0 = 1 ∨ x.f0 = 6 ∨ x.f0 = 7
  · have hu : Aside0 (immB fs glob sl x (pt x.f0).i = true) := ⟨by rcases a1 with e | e | e <;> simp [immB, pt, e]⟩
    rw [hu.out]
    clear hu hf
    cases q1 : (x.f0 == 1)
    · cases q6 : (x.f0 == 6)
      · have q7 : (x.f0 == 7) = true := by simp at q1 q6 ⊢; omega
        clear a1
        go_enter Try.func48, Try.ntmps48
        go_wp2
        go_ret
        exact ⟨rfl, hB.out⟩
      · clear a1
        go_enter Try.func48, Try.ntmps48
        go_wp2
        go_ret
        exact ⟨rfl, hB.out⟩
    · clear a1
      go_enter Try.func48, Try.ntmps48
      go_wp2
      go_ret
      exact ⟨rfl, hB.out⟩
  have q1 : (x.f0 == 1) = false := by simp; omega
  have q6 : (x.f0 == 6) = false := by simp; omega
  have q7 : (x.f0 == 7) = false := by simp; omega
  by_cases a4 : x.f0 = 4
  · have hu : Aside0 (immB fs glob sl x (pt x.f0).i = wi x.f3 0 glob) := ⟨by simp [immB, pt, a4]⟩
    have q4 : (x.f0 == 4) = true := by simp [a4]
    rw [hu.out]
    clear hu hf a1 a4
    by_cases hp : 0 ≤ x.f3
    · have hu : Aside0 (wi x.f3 0 glob = decide (x.f3 ≤ glob)) := ⟨by unfold wi; simp [hp]⟩
      rw [hu.out]
      go_enter Try.func48, Try.ntmps48
      go_wp2
      go_ret
      exact ⟨rfl, hB.out⟩
    · have hu : Aside0 (wi x.f3 0 glob = false) := ⟨by unfold wi; simp [hp]⟩
      rw [hu.out]
      go_enter Try.func48, Try.ntmps48
      go_wp2
      go_ret
      exact ⟨rfl, hB.out⟩
  have q4 : (x.f0 == 4) = false := by simpa using a4
  by_cases a5 : x.f0 = 5
  · have hu : Aside0 (immB fs glob sl x (pt x.f0).i = wi x.f3 0 sl) := ⟨by simp [immB, pt, a5]⟩
    have q5 : (x.f0 == 5) = true := by simp [a5]
    rw [hu.out]
    clear hu hf a1 a4 a5
    by_cases hp : 0 ≤ x.f3
    · have hu : Aside0 (wi x.f3 0 sl = decide (x.f3 ≤ sl)) := ⟨by unfold wi; simp [hp]⟩
      rw [hu.out]
      go_enter Try.func48, Try.ntmps48
      go_wp2
      go_ret
      exact ⟨rfl, hB.out⟩
    · have hu : Aside0 (wi x.f3 0 sl = false) := ⟨by unfold wi; simp [hp]⟩
      rw [hu.out]
      go_enter Try.func48, Try.ntmps48
      go_wp2
      go_ret
      exact ⟨rfl, hB.out⟩
  have q5 : (x.f0 == 5) = false := by simpa using a5
  by_cases a8 : x.f0 = 8
  · have hu : Aside0 (immB fs glob sl x (pt x.f0).i = (x.f3 == 1 || x.f3 == 2)) := ⟨by simp [immB, pt, a8]⟩
    have q8 : (x.f0 == 8) = true := by simp [a8]
    rw [hu.out]
    clear hu hf a1 a4 a5 a8
    cases hx : (x.f3 == 1)
    all_goals
      go_enter Try.func48, Try.ntmps48
      go_wp2
      go_ret
      exact ⟨rfl, hB.out⟩
  have q8 : (x.f0 == 8) = false := by simpa using a8
  by_cases a9 : x.f0 = 9
  · have hu : Aside0 (immB fs glob sl x (pt x.f0).i = (wi x.f3 0 ((fs.length : Int) - 1) && ((x.f2.length : Int) == (rd_T28 fs x.f3).f1))) := ⟨by simp [immB, pt, a9]⟩
    have q9 : (x.f0 == 9) = true := by simp [a9]
    rw [hu.out, hn]
    clear hu a1 a4 a5 a8 a9
    by_cases hp : 0 ≤ x.f3
    · by_cases hr : x.f3 < n0
      · have hu : Aside0 (wi x.f3 0 ((n0 : Int) - 1) = true) := ⟨by unfold wi; simp; omega⟩
        rw [hu.out]
        obtain ⟨ad, A4, c4, hA, _, a1, _⟩ := at_T28 hf.out x.f3 hp hr
        have hlt := World.block_lt_of_cell? w _ a1
        have a1 := (hB.out.cell hlt).trans a1
        cases hA
        clear hf hlt hu
        generalize (rd_T28 fs x.f3).f1 = y at *
        go_enter Try.func48, Try.ntmps48
        go_wp2
        go_quiet (fail)
        go_wp2
        go_ret
        exact ⟨rfl, bdn hB.out _⟩
      · have hu : Aside0 (wi x.f3 0 ((n0 : Int) - 1) = false) := ⟨by unfold wi; simp; omega⟩
        rw [hu.out]
        have g1 : decide (x.f3 < (n0 : Int)) = false := by simp; omega
        clear hf hu
        go_enter Try.func48, Try.ntmps48
        go_wp2
        go_quiet (fail)
        go_wp2
        go_ret
        exact ⟨rfl, bdn hB.out _⟩
    · have hu : Aside0 (wi x.f3 0 ((n0 : Int) - 1) = false) := ⟨by unfold wi; simp; omega⟩
      rw [hu.out]
      have g1 : decide (0 ≤ x.f3) = false := by simp; omega
      have g2 : decide (x.f3 ≥ 0) = false := by simp; omega
      clear hf hu
      go_enter Try.func48, Try.ntmps48
      go_wp2
      go_quiet (fail)
      go_wp2
      go_ret
      exact ⟨rfl, bdn hB.out _⟩
  have q9 : (x.f0 == 9) = false := by simpa using a9
  have hi : (pt x.f0).i = false := by
    unfold pt
    rw [if_neg (by omega)]
    repeat' (first | rfl | (split; omega) | split)
    all_goals omega
  have hu : Aside0 (immB fs glob sl x (pt x.f0).i = (x.f3 == 0)) := ⟨by rw [hi]; rfl⟩
  rw [hu.out]
  clear hu hf a1 a4 a5 a8 a9 hi
  go_enter Try.func48, Try.ntmps48
  go_wp2
  go_ret
  exact ⟨rfl, hB.out⟩

set_option maxHeartbeats 8000000 in
set_option maxRecDepth 100000 in
theorem rends (nm : ByteArray) (pa re sl : Int) (A : Option Addr) (n8 c : Nat) (b : S39) (B0 B3 : Option Addr) (d0 d3 : Nat) (hn8 : n8 ≤ 9223372036854775807) (hl : Aside0 (Kd.C (Kd.int .i64) w B3 b.f3.length b.f3)) :
    Calls Try.prog 33 #[fv nm pa re sl A n8 c, bv b B0 B3 d0 d3] w (RetB (.bool (endB re n8 b)) w) := by
  have hB : Aside0 (Below w.heap.size w ((w.alloc (fb nm pa re sl A n8 c)).alloc (bb b B0 B3 d0 d3))) := ⟨below_alloc (below_alloc (Below.refl _ _) _) _⟩
  have hF : Aside0 (((w.alloc (fb nm pa re sl A n8 c)).alloc (bb b B0 B3 d0 d3)).heap[w.heap.size]? = some (fb nm pa re sl A n8 c)) := ⟨blk_alloc (blk_new w _) _⟩
  have hX : Aside0 (((w.alloc (fb nm pa re sl A n8 c)).alloc (bb b B0 B3 d0 d3)).heap[w.heap.size + 1]? = some (bb b B0 B3 d0 d3)) := ⟨by have := blk_new (w.alloc (fb nm pa re sl A n8 c)) (bb b B0 B3 d0 d3); simp only [World.size_alloc] at this; exact this⟩
  have hmx := Kd.C_max hl.out
  have hE : endB re n8 b = (tosB n8 b.f3 && (if b.f1 = 1 then b.f3.length == 1 && b.f2 == 0 else if b.f1 = 2 then b.f3.length == 2 && wi b.f2 0 (re - 1) else if b.f1 = 3 then b.f3.length == 0 && (b.f2 == -1 || wi b.f2 0 (re - 1)) else false)) := rfl
  by_cases e1 : b.f1 = 1
  · rw [if_pos e1] at hE
    have q1 : (b.f1 == 1) = true := by simp [e1]
    clear e1
    cases hz : (b.f2 == 0)
    · have hres : Aside0 (endB re n8 b = false) := ⟨by rw [hE, hz]; simp⟩
      have hz2 : (b.f2 != 0) = true := by simp at hz ⊢; exact hz
      rw [hres.out]
      clear hE
      go_enter Try.func33, Try.ntmps33
      go_wp2
      go_ret
      exact ⟨rfl, hB.out⟩
    · have hz2 : (b.f2 != 0) = false := by simp at hz ⊢; exact hz
      rw [hz] at hE
      by_cases hL : b.f3.length = 1
      · have hL1 : ((b.f3.length : Int) != 1) = false := by simp [hL]
        have hEnd : Aside0 (endB re n8 b = (tosB n8 b.f3 && true)) := ⟨by rw [hE, hL]; rfl⟩
        have hLa : 1 ≤ b.f3.length := by omega
        have hLb : b.f3.length ≤ 1 := by omega
        clear hE hL
        go_enter Try.func33, Try.ntmps33
        go_wp2
        generalize hW : (w.alloc (fb nm pa re sl A n8 c)).alloc (bb b B0 B3 d0 d3) = W at *
        clear hW
        have hWb := hB
        have f4 : W.cell? ⟨w.heap.size, 4, none⟩ = some (.slice A n8 c) := (blk_cell hF.out 4).trans rfl
        have b3 : W.cell? ⟨w.heap.size + 1, 3, none⟩ = some (.slice B3 b.f3.length d3) := (blk_cell hX.out 3).trans rfl
        go_loopw [6] (fun i wr => ∃ j m : Nat, j ≤ 1 ∧ i = .int .i64 j ∧ wr = W.drewN m ∧ Aside0 (tosB n8 (b.f3.take j) = true)) (fun i _ => 1 - (intOf i).toNat)
        case atStart => exact ⟨0, 0, by omega, rfl, rfl, ⟨rfl⟩⟩
        case round =>
          obtain ⟨j, m, hj, rfl, rfl, ht⟩ := hrel
          have hdr := Aside0.mk (fun n => World.drewN_drewN W m n)
          have f4' : (W.drewN m).cell? ⟨w.heap.size, 4, none⟩ = some (.slice A n8 c) := f4
          have b3' : (W.drewN m).cell? ⟨w.heap.size + 1, 3, none⟩ = some (.slice B3 b.f3.length d3) := b3
          by_cases hlt : j < 1
          · obtain ⟨ad, e, x0⟩ := Kd.at_int hl.out j (by omega) (by omega)
            cases e
            simp only [Int.toNat_natCast] at x0
            have x0 := (hWb.out.cell (World.block_lt_of_cell? w _ x0)).trans x0
            have x0 : (W.drewN m).cell? (ad.add j) = some (.int .i64 (rd b.f3 (j : Int))) := x0
            have hst := all_take (p := fun t => wi t 0 ((n8 : Int) - 1)) (l := b.f3) (j := j) (by omega)
            have hno := all_no (p := fun t => wi t 0 ((n8 : Int) - 1)) (l := b.f3) (j := j) (by omega)
            have hjl : j < b.f3.length := by omega
            generalize rd b.f3 (j : Int) = y at *
            try dsimp only at hst hno
            by_cases hy : 0 ≤ y
            · by_cases hy2 : y < n8
              · have hv : wi y 0 ((n8 : Int) - 1) = true := by unfold wi; simp; omega
                have ht2 : Aside0 (tosB n8 (b.f3.take (j + 1)) = true) := ⟨by have := ht.out; unfold tosB at this ⊢; rw [hst, this, hv]; rfl⟩
                clear hst hno hv ht
                generalize W.drewN m = w2 at *
                go_wp2
                go_quiet (fail)
                go_wp2
                exact ⟨⟨j + 1, m + nq, by omega, by go_num, by rw [hdr.out], ht2⟩, by simp [intOf]; omega⟩
              · have hres : Aside0 (endB re n8 b = false) := ⟨by unfold endB tosB; rw [hno (by unfold wi; simp; omega)]; rfl⟩
                clear hst hno ht
                generalize W.drewN m = w2 at *
                go_wp2
                go_quiet (fail)
                go_wp2
                go_ret
                rw [hres.out, hdr.out]
                exact ⟨rfl, bdn hWb.out _⟩
            · have hres : Aside0 (endB re n8 b = false) := ⟨by unfold endB tosB; rw [hno (by unfold wi; simp; omega)]; rfl⟩
              clear hst hno ht
              generalize W.drewN m = w2 at *
              go_wp2
              go_quiet (fail)
              go_wp2
              go_ret
              rw [hres.out, hdr.out]
              exact ⟨rfl, bdn hWb.out _⟩
          · obtain rfl : j = 1 := by omega
            have ht3 : tosB n8 b.f3 = true := by have := ht.out; rw [List.take_of_length_le (by omega)] at this; exact this
            have hres : Aside0 (endB re n8 b = true) := ⟨by rw [hEnd.out, ht3]; rfl⟩
            clear ht ht3
            go_wp2
            go_ret
            rw [hres.out]
            exact ⟨rfl, bdn hWb.out _⟩
      · have hres : Aside0 (endB re n8 b = false) := ⟨by rw [hE]; simp [hL]⟩
        have hL1 : ((b.f3.length : Int) != 1) = true := by simp; omega
        rw [hres.out]
        clear hE hL
        go_enter Try.func33, Try.ntmps33
        go_wp2
        go_ret
        exact ⟨rfl, hB.out⟩
  rw [if_neg e1] at hE
  have q1 : (b.f1 == 1) = false := by simpa using e1
  clear e1
  by_cases e2 : b.f1 = 2
  · rw [if_pos e2] at hE
    have q2 : (b.f1 == 2) = true := by simp [e2]
    clear e2
    cases hz : wi b.f2 0 (re - 1)
    · have hres : Aside0 (endB re n8 b = false) := ⟨by rw [hE, hz]; simp⟩
      have hr := Aside0.mk (rreg' (w := (w.alloc (fb nm pa re sl A n8 c)).alloc (bb b B0 B3 d0 d3)) hz nm pa sl A n8 c)
      rw [hres.out]
      clear hE hz
      go_enter Try.func33, Try.ntmps33
      go_wp2_with fail
      (with_reducible refine hr.out.mono ?_)
      rintro e w5 ⟨rfl, hb5⟩
      have hB5 := Aside0.mk (below_step hB.out hb5)
      clear hb5
      go_wp2
      go_ret
      exact ⟨rfl, hB5.out⟩
    · have hr := Aside0.mk (rreg' (w := (w.alloc (fb nm pa re sl A n8 c)).alloc (bb b B0 B3 d0 d3)) hz nm pa sl A n8 c)
      rw [hz] at hE
      by_cases hL : b.f3.length = 2
      · have hL1 : ((b.f3.length : Int) != 2) = false := by simp [hL]
        have hEnd : Aside0 (endB re n8 b = (tosB n8 b.f3 && true)) := ⟨by rw [hE, hL]; rfl⟩
        have hLa : 2 ≤ b.f3.length := by omega
        have hLb : b.f3.length ≤ 2 := by omega
        clear hE hL hz
        go_enter Try.func33, Try.ntmps33
        go_wp2_with fail
        (with_reducible refine hr.out.mono ?_)
        rintro e W ⟨rfl, hb5⟩
        have hWb := Aside0.mk (below_step hB.out hb5)
        have f4 : W.cell? ⟨w.heap.size, 4, none⟩ = some (.slice A n8 c) := (blk_cell ((hb5.block _ (blk_lt hF.out)).trans hF.out) 4).trans rfl
        have b3 : W.cell? ⟨w.heap.size + 1, 3, none⟩ = some (.slice B3 b.f3.length d3) := (blk_cell ((hb5.block _ (blk_lt hX.out)).trans hX.out) 3).trans rfl
        clear hb5 hB hr hF hX
        go_wp2
        go_loopw [6] (fun i wr => ∃ j m : Nat, j ≤ 2 ∧ i = .int .i64 j ∧ wr = W.drewN m ∧ Aside0 (tosB n8 (b.f3.take j) = true)) (fun i _ => 2 - (intOf i).toNat)
        case atStart => exact ⟨0, 0, by omega, rfl, rfl, ⟨rfl⟩⟩
        case round =>
          obtain ⟨j, m, hj, rfl, rfl, ht⟩ := hrel
          have hdr := Aside0.mk (fun n => World.drewN_drewN W m n)
          have f4' : (W.drewN m).cell? ⟨w.heap.size, 4, none⟩ = some (.slice A n8 c) := f4
          have b3' : (W.drewN m).cell? ⟨w.heap.size + 1, 3, none⟩ = some (.slice B3 b.f3.length d3) := b3
          by_cases hlt : j < 2
          · obtain ⟨ad, e, x0⟩ := Kd.at_int hl.out j (by omega) (by omega)
            cases e
            simp only [Int.toNat_natCast] at x0
            have x0 := (hWb.out.cell (World.block_lt_of_cell? w _ x0)).trans x0
            have x0 : (W.drewN m).cell? (ad.add j) = some (.int .i64 (rd b.f3 (j : Int))) := x0
            have hst := all_take (p := fun t => wi t 0 ((n8 : Int) - 1)) (l := b.f3) (j := j) (by omega)
            have hno := all_no (p := fun t => wi t 0 ((n8 : Int) - 1)) (l := b.f3) (j := j) (by omega)
            have hjl : j < b.f3.length := by omega
            generalize rd b.f3 (j : Int) = y at *
            try dsimp only at hst hno
            by_cases hy : 0 ≤ y
            · by_cases hy2 : y < n8
              · have hv : wi y 0 ((n8 : Int) - 1) = true := by unfold wi; simp; omega
                have ht2 : Aside0 (tosB n8 (b.f3.take (j + 1)) = true) := ⟨by have := ht.out; unfold tosB at this ⊢; rw [hst, this, hv]; rfl⟩
                clear hst hno hv ht
                generalize W.drewN m = w2 at *
                go_wp2
                go_quiet (fail)
                go_wp2
                exact ⟨⟨j + 1, m + nq, by omega, by go_num, by rw [hdr.out], ht2⟩, by simp [intOf]; omega⟩
              · have hres : Aside0 (endB re n8 b = false) := ⟨by unfold endB tosB; rw [hno (by unfold wi; simp; omega)]; rfl⟩
                clear hst hno ht
                generalize W.drewN m = w2 at *
                go_wp2
                go_quiet (fail)
                go_wp2
                go_ret
                rw [hres.out, hdr.out]
                exact ⟨rfl, bdn hWb.out _⟩
            · have hres : Aside0 (endB re n8 b = false) := ⟨by unfold endB tosB; rw [hno (by unfold wi; simp; omega)]; rfl⟩
              clear hst hno ht
              generalize W.drewN m = w2 at *
              go_wp2
              go_quiet (fail)
              go_wp2
              go_ret
              rw [hres.out, hdr.out]
              exact ⟨rfl, bdn hWb.out _⟩
          · obtain rfl : j = 2 := by omega
            have ht3 : tosB n8 b.f3 = true := by have := ht.out; rw [List.take_of_length_le (by omega)] at this; exact this
            have hres : Aside0 (endB re n8 b = true) := ⟨by rw [hEnd.out, ht3]; rfl⟩
            clear ht ht3
            go_wp2
            go_ret
            rw [hres.out]
            exact ⟨rfl, bdn hWb.out _⟩
      · have hres : Aside0 (endB re n8 b = false) := ⟨by rw [hE]; simp [hL]⟩
        have hL1 : ((b.f3.length : Int) != 2) = true := by simp; omega
        rw [hres.out]
        clear hE hL hz
        go_enter Try.func33, Try.ntmps33
        go_wp2_with fail
        (with_reducible refine hr.out.mono ?_)
        rintro e w5 ⟨rfl, hb5⟩
        have hB5 := Aside0.mk (below_step hB.out hb5)
        have b3 : w5.cell? ⟨w.heap.size + 1, 3, none⟩ = some (.slice B3 b.f3.length d3) := (blk_cell ((hb5.block _ (blk_lt hX.out)).trans hX.out) 3).trans rfl
        clear hb5
        go_wp2
        go_ret
        exact ⟨rfl, hB5.out⟩
  rw [if_neg e2] at hE
  have q2 : (b.f1 == 2) = false := by simpa using e2
  clear e2
  by_cases e3 : b.f1 = 3
  · rw [if_pos e3] at hE
    have q3 : (b.f1 == 3) = true := by simp [e3]
    clear e3
    cases hm : (b.f2 == -1)
    · have hm2 : (b.f2 != -1) = true := by simp at hm ⊢; exact hm
      rw [hm] at hE
      cases hz : wi b.f2 0 (re - 1)
      · have hres : Aside0 (endB re n8 b = false) := ⟨by rw [hE, hz]; simp⟩
        have hr := Aside0.mk (rreg' (w := (w.alloc (fb nm pa re sl A n8 c)).alloc (bb b B0 B3 d0 d3)) hz nm pa sl A n8 c)
        rw [hres.out]
        clear hE hz
        go_enter Try.func33, Try.ntmps33
        go_wp2_with fail
        (with_reducible refine hr.out.mono ?_)
        rintro e w5 ⟨rfl, hb5⟩
        have hB5 := Aside0.mk (below_step hB.out hb5)
        clear hb5
        go_wp2
        go_ret
        exact ⟨rfl, hB5.out⟩
      · have hr := Aside0.mk (rreg' (w := (w.alloc (fb nm pa re sl A n8 c)).alloc (bb b B0 B3 d0 d3)) hz nm pa sl A n8 c)
        rw [hz] at hE
        by_cases hL : b.f3.length = 0
        · have hL1 : ((b.f3.length : Int) != 0) = false := by simp [hL]
          have hEnd : Aside0 (endB re n8 b = true) := ⟨by rw [hE, List.eq_nil_of_length_eq_zero hL]; rfl⟩
          rw [hEnd.out]
          clear hE hL hz
          go_enter Try.func33, Try.ntmps33
          go_wp2_with fail
          (with_reducible refine hr.out.mono ?_)
          rintro e W ⟨rfl, hb5⟩
          have hWb := Aside0.mk (below_step hB.out hb5)
          have b3 : W.cell? ⟨w.heap.size + 1, 3, none⟩ = some (.slice B3 b.f3.length d3) := (blk_cell ((hb5.block _ (blk_lt hX.out)).trans hX.out) 3).trans rfl
          clear hb5 hB hr hF hX
          go_wp2
          go_loop [6] (fun i => i = .int .i64 0) (fun _ => 0)
          case atStart => rfl
          case round =>
            subst hrel
            go_wp2
            go_ret
            exact ⟨rfl, hWb.out⟩
        · have hres : Aside0 (endB re n8 b = false) := ⟨by rw [hE]; simp [hL]⟩
          have hL1 : ((b.f3.length : Int) != 0) = true := bne_iff_ne.mpr (by omega)
          rw [hres.out]
          clear hE hL hz
          go_enter Try.func33, Try.ntmps33
          go_wp2_with fail
          (with_reducible refine hr.out.mono ?_)
          rintro e w5 ⟨rfl, hb5⟩
          have hB5 := Aside0.mk (below_step hB.out hb5)
          have b3 : w5.cell? ⟨w.heap.size + 1, 3, none⟩ = some (.slice B3 b.f3.length d3) := (blk_cell ((hb5.block _ (blk_lt hX.out)).trans hX.out) 3).trans rfl
          clear hb5
          go_wp2
          go_ret
          exact ⟨rfl, hB5.out⟩
    · have hm2 : (b.f2 != -1) = false := by simp at hm ⊢; exact hm
      rw [hm] at hE
      by_cases hL : b.f3.length = 0
      · have hL1 : ((b.f3.length : Int) != 0) = false := by simp [hL]
        have hEnd : Aside0 (endB re n8 b = true) := ⟨by rw [hE, List.eq_nil_of_length_eq_zero hL]; rfl⟩
        rw [hEnd.out]
        clear hE hL
        go_enter Try.func33, Try.ntmps33
        go_wp2
        go_loop [6] (fun i => i = .int .i64 0) (fun _ => 0)
        case atStart => rfl
        case round =>
          subst hrel
          go_wp2
          go_ret
          exact ⟨rfl, hB.out⟩
      · have hres : Aside0 (endB re n8 b = false) := ⟨by rw [hE]; simp [hL]⟩
        have hL1 : ((b.f3.length : Int) != 0) = true := bne_iff_ne.mpr (by omega)
        rw [hres.out]
        clear hE hL
        go_enter Try.func33, Try.ntmps33
        go_wp2
        go_ret
        exact ⟨rfl, hB.out⟩
  · have q3 : (b.f1 == 3) = false := by simpa using e3
    have hres : Aside0 (endB re n8 b = false) := ⟨by rw [hE, if_neg e3]; simp⟩
    rw [hres.out]
    clear hE e3
    go_enter Try.func33, Try.ntmps33
    go_wp2
    go_ret
    exact ⟨rfl, hB.out⟩
end Go.Proofs.Ytidhkicpandmbaa.IrA
