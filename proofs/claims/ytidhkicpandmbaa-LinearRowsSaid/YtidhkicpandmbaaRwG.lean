/- What of lists is asked: Contains, within; light functions; falls, begin. -/
import Derived.Test.YtidhkicpandmbaaRwF
namespace Go.Proofs.Ytidhkicpandmbaa.RwB
open Go.RowKit Go.Shelf Go.Proofs.YtidhkicpandmbaaW.PrintWords Go.Proofs.YtidhkicpandmbaaW.PrintLast Go.Proofs.YtidhkicpandmbaaW.PrintMore Go.Proofs.Ytidhkicpandmbaa.GF Go.Proofs.Ytidhkicpandmbaa.IrA Go.Proofs.Ytidhkicpandmbaa.RwA Go.Proofs.Ytidhkicpandmbaa.RwB Go.Proofs.Ytidhkicpandmbaa.RwC
set_option linter.unusedVariables false
set_option linter.unusedSimpArgs false
def Ix (n : Int) (l : List Int) (w : World) (e : Ending) (w' : World) : Prop := ∃ i : Int, e = .returned (.int .i64 i) ∧ decide (0 ≤ i) = decide (n ∈ l) ∧ w = w'
set_option maxHeartbeats 4000000 in
set_option maxRecDepth 100000 in
theorem index {w : World} {A : Option Addr} {c : Nat} {l : List Int} (n : Int) (hl : Aside0 (Kd.C (Kd.int .i64) w A l.length l)) : Calls Try.prog 49 #[.slice A l.length c, .int .i64 n] w (Ix n l w) := by
  have hmx := Kd.C_max hl.out
  go_enter Try.func49, Try.ntmps49
  go_wp2
  go_loop [8] (fun i => ∃ j : Nat, j ≤ l.length ∧ i = .int .i64 j ∧ Aside0 (¬ n ∈ l.take j)) (fun i => l.length - (intOf i).toNat)
  case atStart => exact ⟨0, by omega, rfl, ⟨by simp⟩⟩
  case round =>
    obtain ⟨j, hj, rfl, ht⟩ := hrel
    by_cases hlt : j < l.length
    · obtain ⟨ad, e, a0⟩ := Kd.at_int hl.out j (by omega) (by omega)
      cases e
      simp only [Int.toNat_natCast] at a0
      have hs := Aside0.mk (mem_take_succ l j hlt n)
      have hm := Aside0.mk (rd_mem l j hlt)
      generalize rd l (j : Int) = y at *
      by_cases hy : y = n
      · subst hy
        have hd : Aside0 (decide ((0 : Int) ≤ (j : Int)) = decide (y ∈ l)) := ⟨by simp [hm.out]⟩
        clear hs hm
        go_wp2
        go_ret
        exact ⟨_, rfl, hd.out, rfl⟩
      · have hy1 : (n == y) = false := by simpa using (fun e => hy e.symm)
        have ht2 : Aside0 (¬ n ∈ l.take (j + 1)) := ⟨by rw [hs.out]; rintro (h | h); exact ht.out h; exact hy h.symm⟩
        clear hs hm hy ht
        go_wp2
        go_round
        case rel => exact ⟨j + 1, by omega, by go_num, ht2⟩
        case measure => simp [intOf]; omega
    · obtain rfl : j = l.length := by omega
      have hd : Aside0 (decide ((0 : Int) ≤ -1) = decide (n ∈ l)) := ⟨by have := ht.out; rw [List.take_length] at this; simp [this]⟩
      clear ht
      go_wp2
      go_ret
      exact ⟨_, rfl, hd.out, rfl⟩
set_option maxHeartbeats 4000000 in
set_option maxRecDepth 100000 in
theorem contains {w : World} {A : Option Addr} {c : Nat} {l : List Int} (n : Int) (hl : Aside0 (Kd.C (Kd.int .i64) w A l.length l)) : Calls Try.prog 34 #[.slice A l.length c, .int .i64 n] w (Ret (.bool (decide (n ∈ l))) w) := by
  go_enter Try.func34, Try.ntmps34
  go_wp2_with ((with_reducible refine (index n hl).mono ?_); rintro e w' ⟨i, rfl, hi, rfl⟩; replace hi := Aside0.mk hi)
  go_ret
  exact ⟨by rw [← hi.out]; rfl, rfl⟩
set_option maxHeartbeats 4000000 in
set_option maxRecDepth 100000 in
theorem within21 {w : World} {A : Option Addr} {c : Nat} {l : List Int} (n : Int) (hl : Aside0 (Kd.C (Kd.int .i64) w A l.length l)) : Calls Try.prog 35 #[.slice A l.length c, .int .i64 n] w (Ret (.bool (decide (n ∈ l))) w) := by
  have hmx := Kd.C_max hl.out
  go_enter Try.func35, Try.ntmps35
  go_wp2
  go_loop [5] (fun i => ∃ j : Nat, j ≤ l.length ∧ i = .int .i64 j ∧ Aside0 (¬ n ∈ l.take j)) (fun i => l.length - (intOf i).toNat)
  case atStart => exact ⟨0, by omega, rfl, ⟨by simp⟩⟩
  case round =>
    obtain ⟨j, hj, rfl, ht⟩ := hrel
    by_cases hlt : j < l.length
    · obtain ⟨ad, e, a0⟩ := Kd.at_int hl.out j (by omega) (by omega)
      cases e
      simp only [Int.toNat_natCast] at a0
      have hs := Aside0.mk (mem_take_succ l j hlt n)
      have hm := Aside0.mk (rd_mem l j hlt)
      generalize rd l (j : Int) = y at *
      by_cases hy : y = n
      · subst hy
        have hd : Aside0 (decide (y ∈ l) = true) := ⟨by simp [hm.out]⟩
        clear hs hm
        go_wp2
        go_ret
        rw [hd.out]
        exact ⟨rfl, rfl⟩
      · have hy1 : (y == n) = false := by simpa using hy
        have ht2 : Aside0 (¬ n ∈ l.take (j + 1)) := ⟨by rw [hs.out]; rintro (h | h); exact ht.out h; exact hy h.symm⟩
        clear hs hm hy ht
        go_wp2
        go_round
        case rel => exact ⟨j + 1, by omega, by go_num, ht2⟩
        case measure => simp [intOf]; omega
    · obtain rfl : j = l.length := by omega
      have hd : Aside0 (decide (n ∈ l) = false) := ⟨by have := ht.out; rw [List.take_length] at this; simp [this]⟩
      clear ht
      go_wp2
      go_ret
      rw [hd.out]
      exact ⟨rfl, rfl⟩
/-- Lightness. -/
def sumC (bs : List S39) : Nat → Int
  | 0 => 0
  | j + 1 => wrap64 (sumC bs j + ((bs.getD j z39).f0.length : Int))
def lightB (re sl : Int) (bs : List S39) : Bool := decide (bs.length ≤ 48) && (decide (sumC bs bs.length ≤ 400) && (decide (re ≤ 400) && decide (sl ≤ 4096)))
theorem lightB_len {re sl : Int} {bs : List S39} (h : lightB re sl bs = true) : bs.length ≤ 48 := by
  unfold lightB at h
  simp only [Bool.and_eq_true, decide_eq_true_eq] at h
  exact h.1
set_option maxHeartbeats 4000000 in
set_option maxRecDepth 100000 in
theorem light {w : World} (nm : ByteArray) (pa re sl : Int) (A : Option Addr) (c : Nat) (bs : List S39) (hl : Aside0 (Kd.C k39 w A bs.length bs)) :
    Calls Try.prog 9 #[fv nm pa re sl A bs.length c] w (RetB (.bool (lightB re sl bs)) w) := by
  have hmx := Kd.C_max hl.out
  have hX : Aside0 ((w.alloc (fb nm pa re sl A bs.length c)).heap[w.heap.size]? = some (fb nm pa re sl A bs.length c)) := ⟨blk_new w _⟩
  have hB : Aside0 (Below w.heap.size w (w.alloc (fb nm pa re sl A bs.length c))) := ⟨below_alloc (Below.refl _ _) _⟩
  go_enter Try.func9, Try.ntmps9
  go_wp2
  generalize w.alloc (Obj.cells #[Value.string nm, Value.int IntKind.i64 pa, Value.int IntKind.i64 re, Value.int IntKind.i64 sl, Value.slice A bs.length c] 28) = W at *
  have y2 : W.cell? ⟨w.heap.size, 2, none⟩ = some (.int .i64 re) := (blk_cell hX.out 2).trans rfl
  have y3 : W.cell? ⟨w.heap.size, 3, none⟩ = some (.int .i64 sl) := (blk_cell hX.out 3).trans rfl
  have y4 : W.cell? ⟨w.heap.size, 4, none⟩ = some (.slice A bs.length c) := (blk_cell hX.out 4).trans rfl
  go_loop [3, 4] (fun z i => ∃ (j : Nat) (q : Int), j ≤ bs.length ∧ i = .int .i64 (j : Int) ∧ Aside0 (z = .int .i64 q) ∧ Aside0 (q = sumC bs j)) (fun _ i => bs.length - (intOf i).toNat)
  case atStart => exact ⟨0, 0, by omega, rfl, ⟨rfl⟩, ⟨rfl⟩⟩
  case round =>
    obtain ⟨j, q, hj, rfl, ⟨rfl⟩, hq⟩ := hrel
    by_cases hlt : j < bs.length
    · obtain ⟨ad, A0, c0, A3, c3, e, d0, d1, d2, d3, l0, g0, l3, g3⟩ := at_T39 hl.out (j : Int) (by omega) (by omega)
      cases e
      simp only [Int.toNat_natCast] at d0 d1 d2 d3
      replace d0 := (hB.out.cell (World.block_lt_of_cell? w _ d0)).trans d0
      have hs : Aside0 (sumC bs (j + 1) = wrap64 (sumC bs j + ((rd_T39 bs (j : Int)).f0.length : Int))) := ⟨by
        have eb : rd_T39 bs (j : Int) = bs.getD j z39 := by simp [rd_T39]
        rw [eb]; rfl⟩
      rw [← hq.out] at hs
      generalize rd_T39 bs (j : Int) = b at *
      clear d1 d2 d3 l0 g0 l3 g3
      have q1 : (j : Int) < (bs.length : Int) := by omega
      go_wp2
      go_round
      case rel => exact ⟨j + 1, _, by omega, by go_num, ⟨rfl⟩, ⟨hs.out.symm⟩⟩
      case measure => simp [intOf]; omega
    · obtain rfl : j = bs.length := by omega
      have hL : Aside0 (lightB re sl bs = (decide (bs.length ≤ 48) && (decide (q ≤ 400) && (decide (re ≤ 400) && decide (sl ≤ 4096))))) := ⟨by rw [hq.out]; rfl⟩
      by_cases h1 : bs.length ≤ 48
      · by_cases h2 : q ≤ 400
        · by_cases h3 : re ≤ 400
          · have hv : Aside0 (lightB re sl bs = decide (sl ≤ 4096)) := ⟨by rw [hL.out]; simp [h1, h2, h3]⟩
            go_wp2
            go_ret
            exact ⟨by rw [hv.out]; rfl, hB.out⟩
          · have hv : Aside0 (lightB re sl bs = false) := ⟨by rw [hL.out]; simp [h3]⟩
            go_wp2
            go_ret
            exact ⟨by rw [hv.out]; rfl, hB.out⟩
        · have hv : Aside0 (lightB re sl bs = false) := ⟨by rw [hL.out]; simp [h2]⟩
          go_wp2
          go_ret
          exact ⟨by rw [hv.out]; rfl, hB.out⟩
      · have hv : Aside0 (lightB re sl bs = false) := ⟨by rw [hL.out]; simp [h1]⟩
        go_wp2
        go_ret
        exact ⟨by rw [hv.out]; rfl, hB.out⟩
set_option maxHeartbeats 4000000 in
set_option maxRecDepth 100000 in
theorem falls {w : World} (nm : ByteArray) (pa re sl : Int) (A A1 : Option Addr) (c c1 : Nat) (bs : List S39) (row : List Int) (p : Int) (hl : Aside0 (Kd.C k39 w A bs.length bs)) (hr : Aside0 (Kd.C (Kd.int .i64) w A1 row.length row)) (hg : Aside0 (∀ x ∈ row, 0 ≤ x ∧ x < bs.length)) (hp : p ≤ 9223372036854775807) :
    Calls Try.prog 13 #[fv nm pa re sl A bs.length c, .slice A1 row.length c1, .int .i64 p] w (RetB (.bool (fallsP (ToB bs) row p)) w) := by
  have hmx := Kd.C_max hl.out
  have hmr := Kd.C_max hr.out
  have hX : Aside0 ((w.alloc (fb nm pa re sl A bs.length c)).heap[w.heap.size]? = some (fb nm pa re sl A bs.length c)) := ⟨blk_new w _⟩
  have hB : Aside0 (Below w.heap.size w (w.alloc (fb nm pa re sl A bs.length c))) := ⟨below_alloc (Below.refl _ _) _⟩
  by_cases h1 : p < 1
  · have hf : fallsP (ToB bs) row p = false := by unfold fallsP; rw [decide_eq_false (by omega)]; rfl
    rw [hf]
    clear hf
    go_enter Try.func13, Try.ntmps13
    go_wp2
    go_ret
    exact ⟨rfl, hB.out⟩
  by_cases h2 : (row.length : Int) ≤ p
  · have hf : fallsP (ToB bs) row p = false := by unfold fallsP; rw [decide_eq_false (show ¬ p < (row.length : Int) by omega), Bool.false_and, Bool.and_false]
    rw [hf]
    clear hf
    go_enter Try.func13, Try.ntmps13
    go_wp2
    go_ret
    exact ⟨rfl, hB.out⟩
  obtain ⟨k, hkp⟩ : ∃ k : Nat, (k : Int) + 1 = p := ⟨(p - 1).toNat, by omega⟩
  have hk : k + 1 < row.length := by omega
  have hk0 : rd row (k : Int) = row.getD k 0 := by simp [rd]
  have hk1 : rd row p = row.getD (k + 1) 0 := by unfold rd; rw [show p.toNat = k + 1 by omega]
  have hgk := hg.out _ (getD_mem0 (show k < row.length by omega))
  have hfp : Aside0 (fallsP (ToB bs) row p = decide (row.getD (k + 1) 0 ∈ ToB bs (row.getD k 0).toNat)) := ⟨by
    rw [← hkp, Bool.eq_iff_iff, fallsP_iff, decide_eq_true_iff]
    exact ⟨fun h => h.2, fun h => ⟨hk, h⟩⟩⟩
  obtain ⟨a1, e, r0⟩ := Kd.at_int hr.out (k : Int) (by omega) (by omega)
  cases e
  obtain ⟨a2, e, r1⟩ := Kd.at_int hr.out p (by omega) (by omega)
  cases e
  rw [hk0] at r0
  rw [hk1] at r1
  rw [Int.toNat_natCast] at r0
  obtain ⟨m, hm⟩ := Int.eq_ofNat_of_zero_le hgk.1
  rw [hm] at r0 hfp hgk
  obtain ⟨ad, A0, c0, A3, c3, e, d0, d1, d2, d3, l0, g0, l3, g3⟩ := at_T39 hl.out (m : Int) (by omega) (by omega)
  cases e
  simp only [Int.toNat_natCast] at d0 d1 d2 d3
  have eb : rd_T39 bs (m : Int) = bs.getD m z39 := by simp [rd_T39]
  rw [eb] at d3 g3
  have hto : Aside0 (ToB bs m = (bs.getD m z39).f3) := ⟨rfl⟩
  rw [Int.toNat_natCast, hto.out] at hfp
  replace r0 := (hB.out.cell (World.block_lt_of_cell? w _ r0)).trans r0
  replace r1 := (hB.out.cell (World.block_lt_of_cell? w _ r1)).trans r1
  replace d3 := (hB.out.cell (World.block_lt_of_cell? w _ d3)).trans d3
  replace g3 := Aside0.mk (Kd.C_below g3 hB.out)
  have hm3 := Kd.C_max g3.out
  rw [hfp.out]
  have q1 : (m : Int) < (bs.length : Int) := hgk.2
  have q2 : p < (row.length : Int) := by omega
  have q3 : IntKind.i64.wrap (p - 1) = (k : Int) := by rw [IntWalk.i64_in _ (by omega)]; omega
  have q5 : (0 : Int) ≤ p := by omega
  have q6 : k < row.length := by omega
  have q7 : (k : Int) < (row.length : Int) := by omega
  have q8 : p.toNat < row.length := by omega
  have y4 : (w.alloc (fb nm pa re sl (some ad) bs.length c)).cell? ⟨w.heap.size, 4, none⟩ = some (.slice (some ad) bs.length c) := (blk_cell hX.out 4).trans rfl
  clear hfp hk0 hk1 hm hgk eb d0 d1 d2 l0 g0 l3 hto hkp
  generalize row.getD (k + 1) 0 = v at *
  generalize (bs.getD m z39) = b at *
  go_enter Try.func13, Try.ntmps13
  go_upto_region 3 with (fail)
  generalize w.alloc (Obj.cells #[Value.string nm, Value.int IntKind.i64 pa, Value.int IntKind.i64 re, Value.int IntKind.i64 sl, Value.slice (some ad) bs.length c] 28) = W at *
  go_quiet (fail)
  have hBW := Aside0.mk (bdn hB.out nq)
  have g5 := Aside0.mk (Kd.C_drewN g3.out nq)
  have r2 : (W.drewN nq).cell? (a1.add p.toNat) = some (.int .i64 v) := r1
  clear r0 r1 d3 y4 hX hB
  generalize W.drewN nq = W2 at *
  go_wp2_with fail
  go_loopw [8] (fun i wr => ∃ j : Nat, j ≤ b.f3.length ∧ i = .int .i64 (j : Int) ∧ Aside0 (¬ v ∈ b.f3.take j) ∧ Aside0 (Below w.heap.size w wr) ∧ Aside0 (wr.cell? (a1.add p.toNat) = some (.int .i64 v)) ∧ Aside0 (Kd.C (Kd.int .i64) wr A3 b.f3.length b.f3)) (fun i _ => b.f3.length - (intOf i).toNat)
  case atStart => exact ⟨0, by omega, rfl, ⟨by simp⟩, hBW, ⟨r2⟩, g5⟩
  case round =>
    obtain ⟨j, hj, rfl, ht, hB3, r3, g4⟩ := hrel
    clear r2 hBW g5
    by_cases hlt : j < b.f3.length
    · obtain ⟨a3, e, z0⟩ := Kd.at_int g4.out (j : Int) (by omega) (by omega)
      cases e
      simp only [Int.toNat_natCast] at z0
      have hs := Aside0.mk (mem_take_succ b.f3 j hlt v)
      have hm := Aside0.mk (rd_mem b.f3 j hlt)
      have z1 := r3.out
      generalize rd b.f3 (j : Int) = y at *
      have q9 : (j : Int) < (b.f3.length : Int) := by omega
      by_cases hy : y = v
      · subst hy
        have hd : Aside0 (decide (y ∈ b.f3) = true) := ⟨by simp [hm.out]⟩
        clear hs hm
        go_upto_region 7 with (fail)
        go_quiet (fail)
        go_wp2_with fail
        go_ret
        rw [hd.out]
        exact ⟨rfl, bdn hB3.out _⟩
      · have hy1 : (y == v) = false := by simpa using hy
        have ht2 : Aside0 (¬ v ∈ b.f3.take (j + 1)) := ⟨by rw [hs.out]; rintro (h | h); exact ht.out h; exact hy h.symm⟩
        clear hs hm hy ht
        go_upto_region 7 with (fail)
        go_quiet (fail)
        go_wp2_with fail
        go_roundw
        case rel => exact ⟨j + 1, by omega, by go_num, ht2, ⟨bdn hB3.out _⟩, r3, ⟨Kd.C_drewN g4.out _⟩⟩
        case measure => simp [intOf]; omega
    · obtain rfl : j = b.f3.length := by omega
      have hd : Aside0 (decide (v ∈ b.f3) = false) := ⟨by have := ht.out; rw [List.take_length] at this; simp [this]⟩
      clear ht
      go_wp2
      go_ret
      rw [hd.out]
      exact ⟨rfl, hB3.out⟩
set_option maxHeartbeats 4000000 in
set_option maxRecDepth 100000 in
theorem begin_ {w : World} (nm : ByteArray) (pa re sl : Int) (A A1 : Option Addr) (c c1 : Nat) (bs : List S39) (row : List Int) (p : Nat) (hl : Aside0 (Kd.C k39 w A bs.length bs)) (hr : Aside0 (Kd.C (Kd.int .i64) w A1 row.length row)) (hg : Aside0 (∀ x ∈ row, 0 ≤ x ∧ x < bs.length)) (hp : p ≤ row.length) :
    Calls Try.prog 14 #[fv nm pa re sl A bs.length c, .slice A1 row.length c1, .int .i64 (p : Int)] w (RetB (.int .i64 (beginP (ToB bs) row p : Int)) w) := by
  have hmr := Kd.C_max hr.out
  have hX : Aside0 ((w.alloc (fb nm pa re sl A bs.length c)).heap[w.heap.size]? = some (fb nm pa re sl A bs.length c)) := ⟨blk_new w _⟩
  have hB : Aside0 (Below w.heap.size w (w.alloc (fb nm pa re sl A bs.length c))) := ⟨below_alloc (Below.refl _ _) _⟩
  go_enter Try.func14, Try.ntmps14
  go_wp2
  generalize w.alloc (Obj.cells #[Value.string nm, Value.int IntKind.i64 pa, Value.int IntKind.i64 re, Value.int IntKind.i64 sl, Value.slice A bs.length c] 28) = W at *
  go_loopw [2] (fun i wr => ∃ j : Nat, j ≤ p ∧ i = .int .i64 (j : Int) ∧ Aside0 (beginP (ToB bs) row j = beginP (ToB bs) row p) ∧ Aside0 (Below w.heap.size w wr) ∧ Aside0 (wr.heap[w.heap.size]? = some (fb nm pa re sl A bs.length c))) (fun i _ => (intOf i).toNat)
  case atStart => exact ⟨p, by omega, rfl, ⟨rfl⟩, hB, hX⟩
  case round =>
    obtain ⟨j, hj, rfl, hb, hB3, hX3⟩ := hrel
    clear hB hX
    have y0 : wr.cell? ⟨w.heap.size, 0, none⟩ = some (.string nm) := (blk_cell hX3.out 0).trans rfl
    have y1 : wr.cell? ⟨w.heap.size, 1, none⟩ = some (.int .i64 pa) := (blk_cell hX3.out 1).trans rfl
    have y2 : wr.cell? ⟨w.heap.size, 2, none⟩ = some (.int .i64 re) := (blk_cell hX3.out 2).trans rfl
    have y3 : wr.cell? ⟨w.heap.size, 3, none⟩ = some (.int .i64 sl) := (blk_cell hX3.out 3).trans rfl
    have y4 : wr.cell? ⟨w.heap.size, 4, none⟩ = some (.slice A bs.length c) := (blk_cell hX3.out 4).trans rfl
    by_cases h1 : 1 < j
    · obtain ⟨m, rfl⟩ : ∃ m, j = m + 1 := ⟨j - 1, by omega⟩
      have hf := Aside0.mk (falls nm pa re sl A A1 c c1 bs row (m : Int) (w := wr) ⟨Kd.C_below hl.out hB3.out⟩ ⟨Kd.C_below hr.out hB3.out⟩ hg (by omega))
      have q1 : IntKind.i64.wrap (((m + 1 : Nat) : Int) - 1) = (m : Int) := by rw [IntWalk.i64_in _ (by omega)]; omega
      have q2 : decide ((1 : Int) < ((m + 1 : Nat) : Int)) = true := decide_eq_true (by omega)
      have hbs : Aside0 (beginP (ToB bs) row (m + 1) = if 0 < m ∧ fallsP (ToB bs) row (m : Int) = true then beginP (ToB bs) row m else m + 1) := ⟨rfl⟩
      generalize hj2 : ((m + 1 : Nat) : Int) = j2 at *
      cases hv : fallsP (ToB bs) row (m : Int)
      · rw [hv] at hf
        have hres : Aside0 (j2 = ((beginP (ToB bs) row p : Nat) : Int)) := ⟨by rw [← hb.out, hbs.out, if_neg (by rw [hv]; simp)]; omega⟩
        clear hv hbs hj2
        go_wp2_with ((with_reducible refine hf.out.mono ?_); rintro e w2 ⟨rfl, hb2⟩; have hB4 := Aside0.mk (below_step hB3.out hb2); clear hb2)
        go_ret
        exact ⟨by rw [← hres.out]; rfl, hB4.out⟩
      · rw [hv] at hf
        have hres : Aside0 (beginP (ToB bs) row m = beginP (ToB bs) row p) := ⟨by rw [← hb.out, hbs.out, if_pos ⟨by omega, hv⟩]⟩
        clear hv hbs
        replace hj2 := Aside0.mk hj2
        go_wp2_with ((with_reducible refine hf.out.mono ?_); rintro e w2 ⟨rfl, hb2⟩; have hX4 := Aside0.mk (blk_below hX3.out hb2); have hB4 := Aside0.mk (below_step hB3.out hb2); clear hb2)
        go_roundw
        case rel => exact ⟨m, by omega, rfl, hres, hB4, hX4⟩
        case measure => have := hj2.out; simp [intOf]; omega
    · have q2 : decide ((1 : Int) < (j : Int)) = false := decide_eq_false (by omega)
      have hres : Aside0 (j = beginP (ToB bs) row p) := ⟨by
        rw [← hb.out]
        match j, h1 with
        | 0, _ => rfl
        | 1, _ => show 1 = (if 0 < 0 ∧ _ then _ else 0 + 1); rw [if_neg (fun h => absurd h.1 (by decide))]
        | m + 2, h => omega⟩
      generalize hj2 : (j : Int) = j2 at *
      have hres2 : Aside0 (j2 = ((beginP (ToB bs) row p : Nat) : Int)) := ⟨by rw [← hj2, ← hres.out]⟩
      clear hj2 hres
      go_wp2
      go_ret
      exact ⟨by rw [← hres2.out]; rfl, hB3.out⟩
end Go.Proofs.Ytidhkicpandmbaa.RwB
