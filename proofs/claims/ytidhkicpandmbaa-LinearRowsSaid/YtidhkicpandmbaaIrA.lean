/- The checker's small functions: within, reg, dst, imm, end. -/
import Derived.Test.YtidhkicpandmbaaGFx0
import Derived.Lib.Hide
import Derived.Outline
import Derived.WalkKit
import Derived.KernelRfl
import Derived.WalkSpells
import Derived.Lib.SliceRun
import Derived.WalkLawsBesides
import Derived.Deep.QuietTactic
import Derived.BigQuiet
import Derived.Deep.RegionHeld3
import Derived.Deep.RegionWith
import Derived.StillTailTactics
namespace Go.Proofs.Ytidhkicpandmbaa.IrA
open Go.RowKit Go.Proofs.YtidhkicpandmbaaW.PrintWords Go.Proofs.YtidhkicpandmbaaW.PrintLast Go.Proofs.Ytidhkicpandmbaa.GF
set_option linter.unusedVariables false
set_option linter.unusedSimpArgs false

theorem bdn {B : Nat} {w w' : World} (h : Below B w w') (n : Nat) : Below B w (w'.drewN n) := h.trans ⟨rfl, rfl, rfl, Nat.le_refl _, fun _ _ => rfl⟩
def wi (a lo hi : Int) : Bool := decide (lo ≤ a) && decide (a ≤ hi)
def Ret (v : Value) (w : World) (e : Ending) (w' : World) : Prop := e = .returned v ∧ w = w'
def RetB (v : Value) (w : World) (e : Ending) (w' : World) : Prop := e = .returned v ∧ Below w.heap.size w w'
set_option maxHeartbeats 4000000 in
set_option maxRecDepth 100000 in
theorem within (a lo hi : Int) (w : World) : Calls Try.prog 42 #[.int .i64 a, .int .i64 lo, .int .i64 hi] w (Ret (.bool (wi a lo hi)) w) := by
  by_cases h : lo ≤ a
  · have e : wi a lo hi = decide (a ≤ hi) := by simp [wi, h]
    rw [e]
    go_enter Try.func42, Try.ntmps42
    go_wp2
    go_ret
    exact ⟨rfl, rfl⟩
  · have e : wi a lo hi = false := by simp [wi, h]
    rw [e]
    go_enter Try.func42, Try.ntmps42
    go_wp2
    go_ret
    exact ⟨rfl, rfl⟩

/-- The checker's cells. -/
structure Ckr where
  A0 : Option Addr
  n0 : Nat
  c0 : Nat
  glob : Int
  v2 : Value
  main : Int
  name : ByteArray
  params : Int
  regs : Int
  slots : Int
  A8 : Option Addr
  n8 : Nat
  c8 : Nat
  v9 : Value
def Ckr.obj (c : Ckr) : Obj := .cells #[.slice c.A0 c.n0 c.c0, .int .i64 c.glob, c.v2, .int .i64 c.main, .string c.name, .int .i64 c.params, .int .i64 c.regs, .int .i64 c.slots, .slice c.A8 c.n8 c.c8, c.v9] 87 (0, 0)
abbrev P (g : Nat) : Value := .pointer (some ⟨g, 0, none⟩)
set_option maxHeartbeats 4000000 in
set_option maxRecDepth 100000 in
theorem reg {w : World} {g : Nat} {c : Ckr} (hg : Aside0 (w.heap[g]? = some c.obj)) (r : Int) (h0 : 0 ≤ c.regs) (h1 : c.regs ≤ 65536) :
    Calls Try.prog 59 #[P g, .int .i64 r] w (Ret (.bool (wi r 0 (c.regs - 1))) w) := by
  have hc : w.cell? ⟨g, 6, none⟩ = some (.int .i64 c.regs) := (blk_cell hg.out 6).trans rfl
  have hw : IntKind.i64.wrap (c.regs - 1) = c.regs - 1 := IntWalk.i64_in _ (by omega)
  clear hg
  go_enter Try.func59, Try.ntmps59
  go_wp2_with ((with_reducible refine (within _ _ _ _).mono ?_); rintro e w' ⟨rfl, rfl⟩)
  go_ret
  exact ⟨rfl, rfl⟩

/-- An instruction's values. -/
abbrev iv (x : S64) (A2 A6 : Option Addr) (c2 c6 : Nat) : Value := .agg #[.int .i64 x.f0, .int .i64 x.f1, .slice A2 x.f2.length c2, .int .i32 x.f3, .int .i64 x.f4, .int .i64 x.f5, .slice A6 x.f6.length c6]
abbrev ib (x : S64) (A2 A6 : Option Addr) (c2 c6 : Nat) : Obj := .cells #[.int .i64 x.f0, .int .i64 x.f1, .slice A2 x.f2.length c2, .int .i32 x.f3, .int .i64 x.f4, .int .i64 x.f5, .slice A6 x.f6.length c6] 64 (0, 0)

def dstB (regs : Int) (x : S64) (has : Bool) : Bool := if has = true then wi x.f1 0 (regs - 1) || (x.f0 == 9 && x.f1 == -1) else x.f1 == -1
set_option maxHeartbeats 4000000 in
set_option maxRecDepth 100000 in
theorem dst {w : World} {g : Nat} {c : Ckr} (hg : Aside0 (w.heap[g]? = some c.obj)) (x : S64) (A2 A6 : Option Addr) (c2 c6 : Nat) (has : Bool) (h0 : 0 ≤ c.regs) (h1 : c.regs ≤ 65536) :
    Calls Try.prog 61 #[P g, iv x A2 A6 c2 c6, .bool has] w (RetB (.bool (dstB c.regs x has)) w) := by
  have hB : Aside0 (Below w.heap.size w (w.alloc (ib x A2 A6 c2 c6))) := ⟨below_alloc (Below.refl _ _) _⟩
  have hg2 : Aside0 ((w.alloc (ib x A2 A6 c2 c6)).heap[g]? = some c.obj) := ⟨blk_alloc hg.out _⟩
  have hr := Aside0.mk (reg hg2 x.f1 h0 h1)
  cases has
  · have e : dstB c.regs x false = (x.f1 == -1) := rfl
    rw [e]
    go_enter Try.func61, Try.ntmps61
    go_wp2
    go_ret
    exact ⟨rfl, hB.out⟩
  · cases hq : wi x.f1 0 (c.regs - 1)
    · rw [hq] at hr
      have hu : Aside0 (dstB c.regs x true = (x.f0 == 9 && x.f1 == -1)) := ⟨by unfold dstB; rw [if_pos rfl, hq]; rfl⟩
      rw [hu.out]
      cases h9 : (x.f0 == 9)
      all_goals
        go_enter Try.func61, Try.ntmps61
        go_wp2_with ((with_reducible refine hr.out.mono ?_); rintro e w' ⟨rfl, rfl⟩)
        go_ret
        exact ⟨rfl, hB.out⟩
    · rw [hq] at hr
      have hu : Aside0 (dstB c.regs x true = true) := ⟨by unfold dstB; rw [if_pos rfl, hq]; rfl⟩
      rw [hu.out]
      go_enter Try.func61, Try.ntmps61
      go_wp2_with ((with_reducible refine hr.out.mono ?_); rintro e w' ⟨rfl, rfl⟩)
      go_ret
      exact ⟨rfl, hB.out⟩

def immB (fs : List S28) (glob slots : Int) (x : S64) (has : Bool) : Bool :=
  if has = true then (if x.f0 = 4 then wi x.f3 0 glob else if x.f0 = 5 then wi x.f3 0 slots else if x.f0 = 8 then (x.f3 == 1 || x.f3 == 2) else if x.f0 = 9 then wi x.f3 0 ((fs.length : Int) - 1) && ((x.f2.length : Int) == (rd_T28 fs x.f3).f1) else true) else x.f3 == 0
set_option maxHeartbeats 8000000 in
set_option maxRecDepth 100000 in
theorem imm {w : World} {g : Nat} {c : Ckr} (hg : Aside0 (w.heap[g]? = some c.obj)) (x : S64) (A2 A6 : Option Addr) (c2 c6 : Nat) (has : Bool) (h0 : -2147483648 ≤ x.f3) (h1 : x.f3 ≤ 2147483647) (fs : List S28) (hn : fs.length = c.n0) (hf : Aside0 (Kd.C k28 w c.A0 c.n0 fs)) :
    Calls Try.prog 62 #[P g, iv x A2 A6 c2 c6, .bool has] w (RetB (.bool (immB fs c.glob c.slots x has)) w) := by
  have hB : Aside0 (Below w.heap.size w (w.alloc (ib x A2 A6 c2 c6))) := ⟨below_alloc (Below.refl _ _) _⟩
  have hg2 : Aside0 ((w.alloc (ib x A2 A6 c2 c6)).heap[g]? = some c.obj) := ⟨blk_alloc hg.out _⟩
  have hw : IntKind.i64.wrap x.f3 = x.f3 := IntWalk.i64_in _ (by omega)
  have k0 : (w.alloc (ib x A2 A6 c2 c6)).cell? ⟨g, 0, none⟩ = some (.slice c.A0 c.n0 c.c0) := (blk_cell hg2.out 0).trans rfl
  have k1 : (w.alloc (ib x A2 A6 c2 c6)).cell? ⟨g, 1, none⟩ = some (.int .i64 c.glob) := (blk_cell hg2.out 1).trans rfl
  have k7 : (w.alloc (ib x A2 A6 c2 c6)).cell? ⟨g, 7, none⟩ = some (.int .i64 c.slots) := (blk_cell hg2.out 7).trans rfl
  have hmx := Kd.C_max hf.out
  cases has
  · have e : immB fs c.glob c.slots x false = (x.f3 == 0) := rfl
    rw [e]
    go_enter Try.func62, Try.ntmps62
    go_wp2
    go_ret
    exact ⟨rfl, hB.out⟩
  · have e : immB fs c.glob c.slots x true = (if x.f0 = 4 then wi x.f3 0 c.glob else if x.f0 = 5 then wi x.f3 0 c.slots else if x.f0 = 8 then (x.f3 == 1 || x.f3 == 2) else if x.f0 = 9 then wi x.f3 0 ((fs.length : Int) - 1) && ((x.f2.length : Int) == (rd_T28 fs x.f3).f1) else true) := rfl
    by_cases e4 : x.f0 = 4
    · have hu : Aside0 (immB fs c.glob c.slots x true = wi x.f3 0 c.glob) := ⟨by rw [e, if_pos e4]⟩
      rw [hu.out]
      have f4 : (x.f0 == 4) = true := by simp [e4]
      clear e hf k0 k7 e4 hu
      go_enter Try.func62, Try.ntmps62
      go_wp2_with ((with_reducible refine (within _ _ _ _).mono ?_); rintro e w' ⟨rfl, rfl⟩)
      go_ret
      exact ⟨rfl, hB.out⟩
    by_cases e5 : x.f0 = 5
    · have hu : Aside0 (immB fs c.glob c.slots x true = wi x.f3 0 c.slots) := ⟨by rw [e, if_neg e4, if_pos e5]⟩
      rw [hu.out]
      have f4 : (x.f0 == 4) = false := by simpa using e4
      have f5 : (x.f0 == 5) = true := by simp [e5]
      clear e hf k0 k1 e4 e5 hu
      go_enter Try.func62, Try.ntmps62
      go_wp2_with ((with_reducible refine (within _ _ _ _).mono ?_); rintro e w' ⟨rfl, rfl⟩)
      go_ret
      exact ⟨rfl, hB.out⟩
    by_cases e8 : x.f0 = 8
    · have hu : Aside0 (immB fs c.glob c.slots x true = (x.f3 == 1 || x.f3 == 2)) := ⟨by rw [e, if_neg e4, if_neg e5, if_pos e8]⟩
      rw [hu.out]
      have f4 : (x.f0 == 4) = false := by simpa using e4
      have f5 : (x.f0 == 5) = false := by simpa using e5
      have f8 : (x.f0 == 8) = true := by simp [e8]
      clear e hf k0 k1 k7 e4 e5 e8 hu
      cases q : (x.f3 == 1)
      all_goals
        go_enter Try.func62, Try.ntmps62
        go_wp2
        go_ret
        exact ⟨rfl, hB.out⟩
    by_cases e9 : x.f0 = 9
    · have hu : Aside0 (immB fs c.glob c.slots x true = (wi x.f3 0 ((fs.length : Int) - 1) && ((x.f2.length : Int) == (rd_T28 fs x.f3).f1))) := ⟨by rw [e, if_neg e4, if_neg e5, if_neg e8, if_pos e9]⟩
      rw [hu.out]
      have f4 : (x.f0 == 4) = false := by simpa using e4
      have f5 : (x.f0 == 5) = false := by simpa using e5
      have f8 : (x.f0 == 8) = false := by simpa using e8
      have f9 : (x.f0 == 9) = true := by simp [e9]
      clear e k1 k7 e4 e5 e8 e9 hu
      have hwl : IntKind.i64.wrap ((c.n0 : Int) - 1) = (c.n0 : Int) - 1 := IntWalk.i64_in _ (by omega)
      have hq1 := Aside0.mk (fun w => within x.f3 0 ((c.n0 : Int) - 1) w)
      rw [hn]
      cases q : wi x.f3 0 ((c.n0 : Int) - 1)
      · rw [q] at hq1
        clear hf
        go_enter Try.func62, Try.ntmps62
        go_wp2
        go_quiet ((go_at_call 42; exact Calls.quiet_of_same ((hq1.out _).mono fun _ _ h => ⟨h.1, h.2.symm⟩)))
        go_wp2
        go_ret
        exact ⟨rfl, bdn hB.out _⟩
      · rw [q] at hq1
        have hi : 0 ≤ x.f3 ∧ x.f3 < c.n0 := by unfold wi at q; simp at q; omega
        obtain ⟨ad, A4, c4, hA, _, a1, _⟩ := at_T28 hf.out x.f3 hi.1 hi.2
        have hlt := World.block_lt_of_cell? w _ a1
        have a1 := ((below_alloc (Below.refl _ _) (ib x A2 A6 c2 c6)).cell hlt).trans a1
        clear hf hlt
        generalize (rd_T28 fs x.f3).f1 = y at *
        obtain ⟨i0, i1⟩ := hi
        go_enter Try.func62, Try.ntmps62
        go_wp2
        go_quiet ((go_at_call 42; exact Calls.quiet_of_same ((hq1.out _).mono fun _ _ h => ⟨h.1, h.2.symm⟩)))
        go_wp2
        go_ret
        exact ⟨rfl, bdn hB.out _⟩
    · have hu : Aside0 (immB fs c.glob c.slots x true = true) := ⟨by rw [e, if_neg e4, if_neg e5, if_neg e8, if_neg e9]⟩
      rw [hu.out]
      have f4 : (x.f0 == 4) = false := by simpa using e4
      have f5 : (x.f0 == 5) = false := by simpa using e5
      have f8 : (x.f0 == 8) = false := by simpa using e8
      have f9 : (x.f0 == 9) = false := by simpa using e9
      clear e hf k0 k1 k7 e4 e5 e8 e9 hu
      go_enter Try.func62, Try.ntmps62
      go_wp2
      go_ret
      exact ⟨rfl, hB.out⟩

/-- A block's values. -/
abbrev bv (b : S39) (A0 A3 : Option Addr) (c0 c3 : Nat) : Value := .agg #[.slice A0 b.f0.length c0, .int .i64 b.f1, .int .i64 b.f2, .slice A3 b.f3.length c3]
abbrev bb (b : S39) (A0 A3 : Option Addr) (c0 c3 : Nat) : Obj := .cells #[.slice A0 b.f0.length c0, .int .i64 b.f1, .int .i64 b.f2, .slice A3 b.f3.length c3] 39 (0, 0)
def tosB (n : Nat) (l : List Int) : Bool := l.all fun t => wi t 0 ((n : Int) - 1)
def endB (regs : Int) (n : Nat) (b : S39) : Bool := tosB n b.f3 && (if b.f1 = 1 then b.f3.length == 1 && b.f2 == 0 else if b.f1 = 2 then b.f3.length == 2 && wi b.f2 0 (regs - 1) else if b.f1 = 3 then b.f3.length == 0 && (b.f2 == -1 || wi b.f2 0 (regs - 1)) else false)
theorem all_take {p : Int → Bool} {l : List Int} {j : Nat} (h : j < l.length) : (l.take (j + 1)).all p = ((l.take j).all p && p (rd l j)) := by
  rw [List.take_succ_eq_append_getElem h, List.all_append]
  simp [rd, List.getD_eq_getElem?_getD, List.getElem?_eq_getElem h]
theorem all_no {p : Int → Bool} {l : List Int} {j : Nat} (h : j < l.length) (hp : p (rd l j) = false) : l.all p = false := by
  rw [← Bool.not_eq_true, List.all_eq_true]
  intro hh
  have := hh (rd l j) (by simp [rd, List.getD_eq_getElem?_getD, List.getElem?_eq_getElem h])
  rw [hp] at this
  cases this
set_option maxHeartbeats 8000000 in
set_option maxRecDepth 100000 in
theorem end_ {w : World} {g : Nat} {c : Ckr} (hg : Aside0 (w.heap[g]? = some c.obj)) (b : S39) (A0 A3 : Option Addr) (c0 c3 : Nat) (h0 : 0 ≤ c.regs) (h1 : c.regs ≤ 65536) (hn : c.n8 ≤ 65536) (hl : Aside0 (Kd.C (Kd.int .i64) w A3 b.f3.length b.f3)) :
    Calls Try.prog 50 #[P g, bv b A0 A3 c0 c3] w (RetB (.bool (endB c.regs c.n8 b)) w) := by
  have hB : Aside0 (Below w.heap.size w (w.alloc (bb b A0 A3 c0 c3))) := ⟨below_alloc (Below.refl _ _) _⟩
  have hg2 : Aside0 ((w.alloc (bb b A0 A3 c0 c3)).heap[g]? = some c.obj) := ⟨blk_alloc hg.out _⟩
  have hr := Aside0.mk (fun r => reg hg2 r h0 h1)
  have k8 : (w.alloc (bb b A0 A3 c0 c3)).cell? ⟨g, 8, none⟩ = some (.slice c.A8 c.n8 c.c8) := (blk_cell hg2.out 8).trans rfl
  have hmx := Kd.C_max hl.out
  have hwl : IntKind.i64.wrap ((c.n8 : Int) - 1) = (c.n8 : Int) - 1 := IntWalk.i64_in _ (by omega)
  clear hg hg2
  go_enter Try.func50, Try.ntmps50
  go_wp2
  go_loop [10] (fun i => ∃ j : Nat, j ≤ b.f3.length ∧ i = .int .i64 j ∧ Aside0 (tosB c.n8 (b.f3.take j) = true)) (fun i => b.f3.length - (intOf i).toNat)
  case atStart => exact ⟨0, by omega, rfl, ⟨rfl⟩⟩
  case round =>
    obtain ⟨j, hj, rfl, ht⟩ := hrel
    by_cases hlt : j < b.f3.length
    · obtain ⟨ad, e, a0⟩ := Kd.at_int hl.out j (by omega) (by omega)
      cases e
      simp only [Int.toNat_natCast] at a0
      have hlt2 := World.block_lt_of_cell? w _ a0
      have a0 := ((below_alloc (Below.refl _ _) (bb b A0 (some ad) c0 c3)).cell hlt2).trans a0
      have hst := all_take (p := fun t => wi t 0 ((c.n8 : Int) - 1)) hlt
      have hno := all_no (p := fun t => wi t 0 ((c.n8 : Int) - 1)) hlt
      have hq := within (rd b.f3 j) 0 ((c.n8 : Int) - 1)
      generalize rd b.f3 (j : Int) = y at *
      try dsimp only at hst hno
      cases hv : wi y 0 ((c.n8 : Int) - 1)
      · rw [hv] at hq hno
        have hend : Aside0 (endB c.regs c.n8 b = false) := ⟨by unfold endB tosB; rw [hno rfl]; rfl⟩
        have hq := Aside0.mk hq
        clear hst hno hl hr
        go_wp2_with ((with_reducible refine (hq.out _).mono ?_); rintro e w' ⟨rfl, rfl⟩)
        go_ret
        rw [hend.out]
        exact ⟨rfl, hB.out⟩
      · rw [hv] at hq hst
        have ht2 : Aside0 (tosB c.n8 (b.f3.take (j + 1)) = true) := ⟨by have := ht.out; unfold tosB at this ⊢; rw [hst, this]; rfl⟩
        have hq := Aside0.mk hq
        clear hst hno hl hr ht
        go_wp2_with ((with_reducible refine (hq.out _).mono ?_); rintro e w' ⟨rfl, rfl⟩)
        go_round
        case rel => exact ⟨j + 1, by omega, by go_num, ht2⟩
        case measure => simp [intOf]; omega
    · obtain rfl : j = b.f3.length := by omega
      have ht' := ht.out
      rw [List.take_length] at ht'
      have hend : endB c.regs c.n8 b = (if b.f1 = 1 then b.f3.length == 1 && b.f2 == 0 else if b.f1 = 2 then b.f3.length == 2 && wi b.f2 0 (c.regs - 1) else if b.f1 = 3 then b.f3.length == 0 && (b.f2 == -1 || wi b.f2 0 (c.regs - 1)) else false) := by unfold endB; rw [ht']; rfl
      clear ht ht' hl k8
      have hr2 := Aside0.mk (hr.out b.f2)
      clear hr
      generalize hwv : wi b.f2 0 (c.regs - 1) = wv at *
      by_cases e1 : b.f1 = 1
      · have hu : Aside0 (endB c.regs c.n8 b = (b.f3.length == 1 && b.f2 == 0)) := ⟨by rw [hend, if_pos e1]⟩
        have f1 : (b.f1 == 1) = true := by simp [e1]
        clear hend e1 hr2
        cases hx : (b.f3.length == 1)
        all_goals
          have hx2 : ((b.f3.length : Int) == 1) = (b.f3.length == 1) := by rw [Bool.eq_iff_iff]; simp; omega
          rw [hx] at hx2 hu
          clear hx
          go_wp2
          go_ret
          rw [hu.out]
          exact ⟨rfl, hB.out⟩
      by_cases e2 : b.f1 = 2
      · have hu : Aside0 (endB c.regs c.n8 b = (b.f3.length == 2 && wv)) := ⟨by rw [hend, if_neg e1, if_pos e2]⟩
        have f1 : (b.f1 == 1) = false := by simp [e2]
        have f2 : (b.f1 == 2) = true := by simp [e2]
        clear hend e1 e2
        cases hx : (b.f3.length == 2)
        all_goals
          have hx2 : ((b.f3.length : Int) == 2) = (b.f3.length == 2) := by rw [Bool.eq_iff_iff]; simp; omega
          rw [hx] at hx2 hu
          clear hx
          go_wp2_with ((with_reducible refine hr2.out.mono ?_); rintro e w' ⟨rfl, rfl⟩)
          go_ret
          rw [hu.out]
          exact ⟨rfl, hB.out⟩
      by_cases e3 : b.f1 = 3
      · have hu : Aside0 (endB c.regs c.n8 b = (b.f3.length == 0 && (b.f2 == -1 || wv))) := ⟨by rw [hend, if_neg e1, if_neg e2, if_pos e3]⟩
        have f1 : (b.f1 == 1) = false := by simp [e3]
        have f2 : (b.f1 == 2) = false := by simp [e3]
        have f3 : (b.f1 == 3) = true := by simp [e3]
        clear hend e1 e2 e3
        cases hx : (b.f3.length == 0)
        all_goals
          have hx2 : ((b.f3.length : Int) == 0) = (b.f3.length == 0) := by rw [Bool.eq_iff_iff]; simp
          rw [hx] at hx2 hu
          clear hx
          cases hy : (b.f2 == -1)
        all_goals
          rw [hy] at hu
          go_wp2_with ((with_reducible refine hr2.out.mono ?_); rintro e w' ⟨rfl, rfl⟩)
          go_ret
          rw [hu.out]
          exact ⟨rfl, hB.out⟩
      · have hu : Aside0 (endB c.regs c.n8 b = false) := ⟨by rw [hend, if_neg e1, if_neg e2, if_neg e3]⟩
        have f1 : (b.f1 == 1) = false := by simpa using e1
        have f2 : (b.f1 == 2) = false := by simpa using e2
        have f3 : (b.f1 == 3) = false := by simpa using e3
        clear hend e1 e2 e3 hr2
        go_wp2
        go_ret
        rw [hu.out]
        exact ⟨rfl, hB.out⟩
end Go.Proofs.Ytidhkicpandmbaa.IrA
