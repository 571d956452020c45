/- slices.Backward at ints: its function value, and what it yields. -/
import Derived.Test.YtidhkicpandmbaaRwB
import Derived.RangeFuncNested
import Derived.RangeFuncBound
import Derived.RangeFuncCalls
import Derived.RangeFuncLeaves
import Derived.Shelf.Abstract
import Derived.Shelf.RegionOpen
import Derived.OwnWalkIn
import Derived.TacticsInMore
import Derived.LoopNIn
import Derived.LoopIn
namespace Go.Proofs.Ytidhkicpandmbaa.RwC
open Go.RowKit Go.Shelf Go.Proofs.YtidhkicpandmbaaW.PrintWords Go.Proofs.YtidhkicpandmbaaW.PrintLast Go.Proofs.Ytidhkicpandmbaa.GF Go.Proofs.Ytidhkicpandmbaa.IrA Go.Proofs.Ytidhkicpandmbaa.RwA Go.Proofs.Ytidhkicpandmbaa.RwB
set_option linter.unusedVariables false
set_option linter.unusedSimpArgs false
attribute [local go_sem] Oper.semAt_some
/-- What is yielded k-th. -/
def bk (zs : List Int) (k : Nat) : Int × Int := (((zs.length - 1 - k : Nat) : Int), zs.getD (zs.length - 1 - k) 0)
def upto {α : Type} (f : Nat → α) (k : Nat) : List α := (List.range k).map f
theorem upto_succ {α : Type} (f : Nat → α) (k : Nat) : upto f (k + 1) = upto f k ++ [f k] := by simp [upto, List.range_succ]
theorem upto_length {α : Type} (f : Nat → α) (k : Nat) : (upto f k).length = k := by simp [upto]
theorem rd_mem0 (l : List Int) (j : Nat) (h : j < l.length) : rd l (j : Int) ∈ l := by
  simp [rd, List.getD_eq_getElem?_getD, List.getElem?_eq_getElem h]
/-- What is yielded: a place and one of the numbers. -/
abbrev Yd (zs : List Int) := { x : Int × Int // x.2 ∈ zs }
abbrev box (A : Option Addr) (n cap : Nat) : Obj := .cells #[.slice A n cap] 29 (0, 0)
/-- What a round keeps. -/
def Kp (n₀ Bs : Nat) (A : Option Addr) (n cap : Nat) (W W' : World) : Prop := Below n₀ W W' ∧ (W.heap[Bs]? = some (box A n cap) → W'.heap[Bs]? = some (box A n cap))
theorem kp_t {n₀ Bs : Nat} {A : Option Addr} {n cap : Nat} {X Y Z : World} (h : Kp n₀ Bs A n cap X Y) (k : Kp n₀ Bs A n cap Y Z) : Kp n₀ Bs A n cap X Z := ⟨h.1.trans k.1, fun q => k.2 (h.2 q)⟩

set_option maxHeartbeats 4000000 in
set_option maxRecDepth 100000 in
theorem back {w : World} (A : Option Addr) (n cap : Nat) :
    Calls Try.prog 28 #[.slice A n cap] w fun e w' => e = .returned (.func (.func 43) #[] #[.pointer (some ⟨w.heap.size, 0, none⟩)]) ∧ w' = w.alloc (box A n cap) := by
  go_enter Try.func28, Try.ntmps28
  go_wp2
  go_ret
  exact ⟨rfl, rfl⟩

set_option maxHeartbeats 4000000 in
set_option maxRecDepth 100000 in
theorem back1_in (F : Fence) (n : Nat) (h43 : F.fn 43) (hro : F.round = none) (hn : 1 ≤ n) (l Bs : Nat) (w0 : World) (A : Option Addr) (cap : Nat) (zs : List Int) (hl : Aside0 (Kd.C (Kd.int .i64) w0 A zs.length zs))
    (J Jx : List (Yd zs) → World → Prop)
    (hY : ∀ pre x W, J pre W → pre.length < zs.length → YieldAt F (n - 1) Try.prog l #[.int .i64 x.1.1, .int .i64 x.1.2] W fun e W' =>
      (e = .returned (.bool true) ∧ J (pre ++ [x]) W' ∧ Kp w0.heap.size Bs A zs.length cap W W') ∨ (e = .returned (.bool false) ∧ Jx (pre ++ [x]) W'))
    (W : World) (hW0 : Below w0.heap.size w0 W) (hBs : W.heap[Bs]? = some (box A zs.length cap)) (h0 : J [] W) :
    CallsIn F n Try.prog 43 #[.func (.yield l) #[] #[], .pointer (some ⟨Bs, 0, none⟩)] W fun e W' => (∃ v, e = .returned v) ∧
      ((∃ ys : List (Yd zs), ys.map (·.1) = upto (bk zs) zs.length ∧ J ys W') ∨ (∃ pre, True ∧ Jx pre W')) := by
  have hmx := Kd.C_max hl.out
  have b0 : W.cell? ⟨Bs, 0, none⟩ = some (.slice A zs.length cap) := (blk_cell hBs 0).trans rfl
  refine callsIn_of_wp Try.func43 rfl h43 ?_ hro
  simp only [Try.ntmps43, List.size_toArray, List.length_cons, List.length_nil, Nat.reduceAdd, Nat.reduceSub, Array.replicate_succ, Array.replicate_zero, List.push_toArray, List.append_toArray, List.nil_append, List.cons_append]
  gi_wp2
  gi_loopw [3] (fun i wr => ∃ (k : Nat) (ys : List (Yd zs)), k ≤ zs.length ∧ i = .int .i64 ((zs.length : Int) - 1 - k) ∧ Aside0 (ys.map (·.1) = upto (bk zs) k) ∧ J ys wr ∧ Aside0 (Below w0.heap.size w0 wr) ∧ Aside0 (wr.heap[Bs]? = some (box A zs.length cap)))
    (fun i _ => (intOf i + 1).toNat)
  case atStart => exact ⟨0, [], Nat.zero_le _, by go_num, ⟨rfl⟩, h0, ⟨hW0⟩, ⟨hBs⟩⟩
  case round =>
    obtain ⟨k, ys, hk, rfl, hys, hJs, hB, hbx⟩ := hrel
    have hyl : ys.length = k := by have := congrArg List.length hys.out; simpa [upto] using this
    have c0 : wr.cell? ⟨Bs, 0, none⟩ = some (.slice A zs.length cap) := (blk_cell hbx.out 0).trans rfl
    clear b0
    by_cases hlt : k < zs.length
    · obtain ⟨m, hm⟩ : ∃ m : Nat, m = zs.length - 1 - k := ⟨_, rfl⟩
      have em : (zs.length : Int) - 1 - k = (m : Int) := by omega
      have hbk : bk zs k = ((m : Int), rd zs (m : Int)) := by unfold bk; rw [← hm]; simp [rd]
      obtain ⟨ad, e, a0⟩ := Kd.at_int hl.out (m : Int) (by omega) (by omega)
      cases e
      simp only [Int.toNat_natCast] at a0
      replace a0 := (hB.out.cell (World.block_lt_of_cell? w0 _ a0)).trans a0
      have hup := Aside0.mk (upto_succ (bk zs) k)
      obtain ⟨fn, tmps, assign, body, hy, hR⟩ := hY _ ⟨bk zs k, by rw [hbk]; exact rd_mem0 zs m (by omega)⟩ wr hJs (by omega)
      dsimp only at hy
      simp only [hbk] at hy
      obtain ⟨yx, hyx⟩ : ∃ yx : Yd zs, yx = ⟨bk zs k, by rw [hbk]; exact rd_mem0 zs m (by omega)⟩ := ⟨_, rfl⟩
      rw [← hyx] at hR
      have hy2 : Aside0 ((ys ++ [yx]).map (·.1) = upto (bk zs) (k + 1)) := ⟨by rw [hup.out, List.map_append, hys.out, hyx]; rfl⟩
      clear hyx hup hyl
      rw [em]
      have q0 : (0 : Int) ≤ (m : Int) := by omega
      have q1 : (m : Int) < (zs.length : Int) := by omega
      replace hm := Aside0.mk hm
      replace em := Aside0.mk em
      generalize rd zs (m : Int) = y at *
      clear hbk hY
      gi_wp2
      refine hR.mono ?_
      rintro e W3 (⟨rfl, hJ3, hk3⟩ | ⟨rfl, hJx3⟩)
      · have hB3 := Aside0.mk (hB.out.trans hk3.1)
        have hx3 := Aside0.mk (hk3.2 hbx.out)
        clear hk3
        gi_wp2
        go_roundw
        case rel => exact ⟨k + 1, ys ++ [yx], by omega, by have := em.out; go_num, hy2, hJ3, hB3, hx3⟩
        case measure => (simp [intOf]; try omega)
      · gi_wp2
        refine bodyPost_ret (results_none rfl _ _ _) rfl ?_
        exact ⟨⟨_, rfl⟩, .inr ⟨_, trivial, hJx3⟩⟩
    · obtain rfl : k = zs.length := by omega
      have q0 : (zs.length : Int) - 1 - zs.length = -1 := by omega
      rw [q0]
      clear q0
      gi_wp2
      go_end0
      exact ⟨⟨_, rfl⟩, .inl ⟨ys, hys.out, hJs⟩⟩
theorem back_stops (F : Fence) (n : Nat) (h43 : F.fn 43) (hro : F.round = none) (hn : 1 ≤ n) (Bs : Nat) (w0 : World) (A : Option Addr) (cap : Nat) (zs : List Int) (hl : Aside0 (Kd.C (Kd.int .i64) w0 A zs.length zs))
    (w : World) (hw : Below w0.heap.size w0 w) (hBs : w.heap[Bs]? = some (box A zs.length cap)) :
    SeqStopsK F n Try.prog 43 #[.pointer (some ⟨Bs, 0, none⟩)] (fun x : Yd zs => #[Value.int .i64 x.1.1, Value.int .i64 x.1.2]) (Kp w0.heap.size Bs A zs.length cap) (fun ys => ys.map (·.1) = upto (bk zs) zs.length) (fun _ => True) zs.length w :=
  fun l J Jx W hW _ _ hY h0 =>
    back1_in F n h43 hro hn l Bs w0 A cap zs hl J Jx hY W (hw.trans (hW.mono hw.size)) ((hW.block _ (blk_lt hBs)).trans hBs) h0
end Go.Proofs.Ytidhkicpandmbaa.RwC
