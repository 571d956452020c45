/- The reference's shape, register, imm, SameInts, ends. -/
import Derived.Test.YtidhkicpandmbaaIrC
import Derived.Test.YtidhkicpandmbaaIrF
namespace Go.Proofs.Ytidhkicpandmbaa.IrA
open Go.RowKit Go.Proofs.YtidhkicpandmbaaW.PrintWords Go.Proofs.YtidhkicpandmbaaW.PrintLast Go.Proofs.YtidhkicpandmbaaW.PrintMore Go.Proofs.Ytidhkicpandmbaa.GF
set_option linter.unusedVariables false
set_option linter.unusedSimpArgs false

/-- Whether an operation has a Dst: -1, 0, 1. -/
def rdn (op : Int) : Int := if op = 7 ∨ op = 8 ∨ op = 11 then -1 else if op = 9 then 0 else if (pt op).is = true then 1 else 0
def ShR (op : Int) (w : World) : Prop := Calls Try.prog 46 #[.int .i64 op] w (Ret (.tuple #[.int .i64 (pt op).n, .int .i64 (rdn op), .bool (pt op).is]) w)
set_option maxHeartbeats 4000000 in
set_option maxRecDepth 100000 in
theorem rshape_at (op : Int) (h : op = 1 ∨ op = 2 ∨ op = 3 ∨ op = 4 ∨ op = 5 ∨ op = 6 ∨ op = 7 ∨ op = 8 ∨ op = 9 ∨ op = 10 ∨ op = 11 ∨ op = 12) (w : World) : ShR op w := by
  unfold ShR
  rcases h with rfl | rfl | rfl | rfl | rfl | rfl | rfl | rfl | rfl | rfl | rfl | rfl
  all_goals
    go_enter Try.func46, Try.ntmps46
    go_wp2
    go_ret3
    exact ⟨rfl, rfl⟩
set_option maxHeartbeats 4000000 in
set_option maxRecDepth 100000 in
theorem rshape_no (op : Int) (h1 : (op == 1) = false) (h2 : (op == 2) = false) (h3 : (op == 3) = false) (h4 : (op == 4) = false) (h5 : (op == 5) = false) (h6 : (op == 6) = false) (h7 : (op == 7) = false) (h8 : (op == 8) = false) (h9 : (op == 9) = false) (h10 : (op == 10) = false) (h11 : (op == 11) = false) (h12 : (op == 12) = false) (w : World) :
    Calls Try.prog 46 #[.int .i64 op] w (Ret (.tuple #[.int .i64 0, .int .i64 0, .bool false]) w) := by
  go_enter Try.func46, Try.ntmps46
  go_wp2
  go_ret3
  exact ⟨rfl, rfl⟩
theorem pt_no (op : Int) (h : ¬ (op = 1 ∨ op = 2 ∨ op = 3 ∨ op = 4 ∨ op = 5 ∨ op = 6 ∨ op = 7 ∨ op = 8 ∨ op = 9 ∨ op = 10 ∨ op = 11 ∨ op = 12)) : pt op = ⟨false, 0, false, false, false, false, false⟩ := by
  unfold pt
  rw [if_neg (by omega), if_neg (by omega), if_neg (by omega), if_neg (by omega), if_neg (by omega), if_neg (by omega), if_neg (by omega), if_neg (by omega), if_neg (by omega), if_neg (by omega)]
theorem rshape (op : Int) (w : World) : ShR op w := by
  by_cases h : op = 1 ∨ op = 2 ∨ op = 3 ∨ op = 4 ∨ op = 5 ∨ op = 6 ∨ op = 7 ∨ op = 8 ∨ op = 9 ∨ op = 10 ∨ op = 11 ∨ op = 12
  · exact rshape_at op h w
  · have e2 : rdn op = 0 := by unfold rdn; rw [if_neg (by omega), if_neg (by omega), pt_no op h]; rfl
    unfold ShR
    rw [e2, pt_no op h]
    refine rshape_no op ?_ ?_ ?_ ?_ ?_ ?_ ?_ ?_ ?_ ?_ ?_ ?_ w <;> simp <;> omega
theorem ShR.call {op : Int} {w : World} (h : ShR op w) : Calls Try.prog 46 #[.int .i64 op] w (Ret (.tuple #[.int .i64 (pt op).n, .int .i64 (rdn op), .bool (pt op).is]) w) := h

set_option maxHeartbeats 4000000 in
set_option maxRecDepth 100000 in
theorem rreg {w : World} (nm : ByteArray) (pa re sl : Int) (A : Option Addr) (n c : Nat) (r : Int) : Calls Try.prog 47 #[fv nm pa re sl A n c, .int .i64 r] w (RetB (.bool (wi r 0 (re - 1))) w) := by
  have hB : Aside0 (Below w.heap.size w (w.alloc (fb nm pa re sl A n c))) := ⟨below_alloc (Below.refl _ _) _⟩
  by_cases h : 0 ≤ r
  · have e : wi r 0 (re - 1) = decide (r < re) := by unfold wi; rw [Bool.eq_iff_iff]; simp; omega
    rw [e]
    clear e
    go_enter Try.func47, Try.ntmps47
    go_wp2
    go_ret
    exact ⟨rfl, hB.out⟩
  · have e : wi r 0 (re - 1) = false := by unfold wi; simp; omega
    rw [e]
    clear e
    go_enter Try.func47, Try.ntmps47
    go_wp2
    go_ret
    exact ⟨rfl, hB.out⟩
theorem rreg' {w : World} {v : Bool} {r re : Int} (h : wi r 0 (re - 1) = v) (nm : ByteArray) (pa sl : Int) (A : Option Addr) (n c : Nat) : Calls Try.prog 47 #[fv nm pa re sl A n c, .int .i64 r] w (RetB (.bool v) w) := by
  rw [← h]; exact rreg nm pa re sl A n c r

theorem same_drop (l r : List Int) (h : l.length = r.length) (j : Nat) (hj : j < l.length) : (l.drop j == r.drop j) = (rd l (j : Int) == rd r (j : Int) && (l.drop (j + 1) == r.drop (j + 1))) := by
  have d1 : l.drop j = l[j] :: l.drop (j + 1) := List.drop_eq_getElem_cons (by omega)
  have d2 : r.drop j = r[j] :: r.drop (j + 1) := List.drop_eq_getElem_cons (by omega)
  rw [rd_at l j hj, rd_at r j (by omega), d1, d2]
  rw [Bool.eq_iff_iff]
  simp only [beq_iff_eq, List.cons.injEq, Bool.and_eq_true]
set_option maxHeartbeats 8000000 in
set_option maxRecDepth 100000 in
theorem rsame {w : World} {A B : Option Addr} {c d : Nat} {l r : List Int} (hl : Aside0 (Kd.C (Kd.int .i64) w A l.length l)) (hr : Aside0 (Kd.C (Kd.int .i64) w B r.length r)) :
    Calls Try.prog 32 #[.slice A l.length c, .slice B r.length d] w fun e w' => e = .returned (.bool (l == r)) ∧ ∃ n, w' = w.drewN n := by
  have hmx := Kd.C_max hl.out
  by_cases hlen : l.length = r.length
  · have h1 : ((l.length : Int) != (r.length : Int)) = false := by simp [hlen]
    have h2 : (l.length != r.length) = false := by simp [hlen]
    have hle : l.length ≤ r.length := by omega
    have hle2 : r.length ≤ l.length := by omega
    have hst : Aside0 ((l.drop 0 == r.drop 0) = (l == r)) := ⟨rfl⟩
    have hlen' := Aside0.mk hlen
    clear hlen
    go_enter Try.func32, Try.ntmps32
    go_wp2
    go_loopw [5] (fun i wr => ∃ j m : Nat, j ≤ l.length ∧ i = .int .i64 j ∧ wr = w.drewN m ∧ Aside0 ((l.drop j == r.drop j) = (l == r))) (fun i _ => l.length - (intOf i).toNat)
    case atStart => exact ⟨0, 0, by omega, rfl, rfl, hst⟩
    case round =>
      obtain ⟨j, m, hj, rfl, rfl, hE⟩ := hrel
      clear hst
      by_cases hlt : j < l.length
      · obtain ⟨ad, e, x0⟩ := Kd.at_int hl.out j (by omega) (by omega)
        cases e
        obtain ⟨ae, e, y0⟩ := Kd.at_int hr.out j (by omega) (by omega)
        cases e
        simp only [Int.toNat_natCast] at x0 y0
        have hd := same_drop l r hlen'.out j hlt
        generalize rd l (j : Int) = x at *
        generalize rd r (j : Int) = y at *
        have x0 : (w.drewN m).cell? (ad.add j) = some (.int .i64 x) := x0
        have y0 : (w.drewN m).cell? (ae.add j) = some (.int .i64 y) := y0
        have hjr : j < r.length := by omega
        have hdr := Aside0.mk (fun n => World.drewN_drewN w m n)
        by_cases hxy : x = y
        · subst hxy
          have hE2 : Aside0 ((l.drop (j + 1) == r.drop (j + 1)) = (l == r)) := ⟨by rw [← hE.out, hd]; simp⟩
          have q1 : (x != x) = false := by simp
          clear hd hE
          generalize w.drewN m = w2 at *
          go_wp2
          go_quiet (fail)
          go_wp2
          exact ⟨⟨j + 1, m + nq, by omega, by go_num, by rw [hdr.out], hE2⟩, by simp [intOf]; omega⟩
        · have hE2 : Aside0 ((l == r) = false) := ⟨by rw [← hE.out, hd]; simp [hxy]⟩
          have q1 : (x != y) = true := by simpa using hxy
          clear hd hE hxy
          generalize w.drewN m = w2 at *
          go_wp2
          go_quiet (fail)
          go_wp2
          go_ret
          rw [hE2.out]
          exact ⟨rfl, _, hdr.out _⟩
      · obtain rfl : j = l.length := by omega
        have hE2 : Aside0 ((l == r) = true) := ⟨by rw [← hE.out, List.drop_of_length_le (Nat.le_refl _), List.drop_of_length_le hle2]; rfl⟩
        clear hE
        go_wp2
        go_ret
        rw [hE2.out]
        exact ⟨rfl, _, rfl⟩
  · have h1 : ((l.length : Int) != (r.length : Int)) = true := by simp; omega
    have h2 : (l.length != r.length) = true := by simp [hlen]
    have hE2 : Aside0 ((l == r) = false) := ⟨by rw [← Bool.not_eq_true, beq_iff_eq]; exact fun e => hlen (by rw [e])⟩
    clear hlen
    go_enter Try.func32, Try.ntmps32
    go_wp2
    go_ret
    rw [hE2.out]
    exact ⟨rfl, 0, rfl⟩
end Go.Proofs.Ytidhkicpandmbaa.IrA
