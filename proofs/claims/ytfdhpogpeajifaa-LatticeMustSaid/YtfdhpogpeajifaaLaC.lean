/- Nodes and edges in memory; the problem's four functions. -/
import Derived.Test.YtfdhpogpeajifaaLaB
import Derived.Test.YtfdhpogpeajifaaPLatticeSolvesx0
import Derived.Lib.Hide
import Derived.Outline
import Derived.WalkSpells
import Derived.Lib.SliceRun
import Derived.WalkLawsBesides
import Derived.Deep.RegionWith
import Derived.StillTailTactics
import Derived.Laws.BitsAllLaws
namespace Go.Proofs.Ytfdhpogpeajifaa.Lat
open Go.RowKit Go.Proofs.YtfdhpogpeajifaaW.PrintWords Go.Proofs.YtfdhpogpeajifaaW.PrintLast Go.Proofs.YtfdhpogpeajifaaW.PrintMore
set_option linter.unusedVariables false
set_option linter.unusedSimpArgs false
abbrev iv (v : V) : Int := (v.toNat : Int)
abbrev uv (v : V) : Value := .int .u64 (iv v)
theorem iv_lt (v : V) : 0 ≤ iv v ∧ iv v < 18446744073709551616 := by
  have := v.isLt
  unfold iv
  omega
theorem iv_inj {a b : V} (h : iv a = iv b) : a = b := BitVec.eq_of_toNat_eq (by unfold iv at h; omega)
theorem iv_or (a b : V) : Go.bits .or .u64 (iv a) (iv b) = iv (a ||| b) := by
  rw [show iv (a ||| b) = ((a.toNat ||| b.toNat : Nat) : Int) by unfold iv; rw [BitVec.toNat_or]]
  exact u64_or_nat _ _ (by have := a.isLt; omega) (by have := b.isLt; omega)
theorem iv_and (a b : V) : Go.bits .and .u64 (iv a) (iv b) = iv (a &&& b) := by
  rw [show iv (a &&& b) = ((a.toNat &&& b.toNat : Nat) : Int) by unfold iv; rw [BitVec.toNat_and]]
  exact u64_and_nat _ _ (by have := a.isLt; omega) (by have := b.isLt; omega)
theorem iv_andNot (a b : V) : Go.bits .andNot .u64 (iv a) (iv b) = iv (a &&& ~~~ b) := by
  rw [show iv (a &&& ~~~ b) = ((a.toNat &&& (18446744073709551615 - b.toNat) : Nat) : Int) by unfold iv; rw [BitVec.toNat_and, BitVec.toNat_not]]
  exact u64_andNot_nat _ _ (by have := a.isLt; omega) (by have := b.isLt; omega)
def kN : Kd Nd := Kd.iso (Kd.pair (Kd.int .u64) (Kd.pair (Kd.int .u64) (Kd.int .u64))) (fun x => (iv x.gen, iv x.kill, iv x.start))
def kE : Kd (Int × Int) := Kd.pair (Kd.int .i64) (Kd.int .i64)
abbrev z0 : Nd := ⟨0, 0, 0⟩
theorem at_N {w : World} {A : Option Addr} {n : Nat} {xs : List Nd} (h : kN.C w A n xs) (i : Nat) (h1 : i < n) : ∃ ad, A = some ad ∧ w.cell? (ad.add (i * 3)) = some (uv (xs.getD i z0).gen) ∧ w.cell? ⟨(ad.add (i * 3)).block, (ad.add (i * 3)).off + 1, none⟩ = some (uv (xs.getD i z0).kill) ∧ w.cell? ⟨(ad.add (i * 3)).block, (ad.add (i * 3)).off + 2, none⟩ = some (uv (xs.getD i z0).start) := by
  obtain ⟨ad, c, e, _, hK, hc0⟩ := Kd.C_get h z0 (i : Int) (by omega) (by omega)
  rw [Int.toNat_natCast] at hK hc0
  have hc : ∀ j u, c[j]? = some u → w.cell? (ad.add (i * 3 + j)) = some u := hc0
  obtain ⟨_, _, rfl, rfl, _, _, rfl, rfl, rfl⟩ := hK
  exact ⟨ad, e, hc 0 _ rfl, by rw [← add_field _ _ 1 (by omega)]; exact hc 1 _ rfl, by rw [← add_field _ _ 2 (by omega)]; exact hc 2 _ rfl⟩
theorem at_E {w : World} {A : Option Addr} {n : Nat} {xs : List (Int × Int)} (h : kE.C w A n xs) (i : Nat) (h1 : i < n) : ∃ ad, A = some ad ∧ w.cell? (ad.add (i * 2)) = some (.int .i64 (xs.getD i (0, 0)).1) ∧ w.cell? ⟨(ad.add (i * 2)).block, (ad.add (i * 2)).off + 1, none⟩ = some (.int .i64 (xs.getD i (0, 0)).2) := by
  obtain ⟨ad, c, e, _, hK, hc0⟩ := Kd.C_get h (0, 0) (i : Int) (by omega) (by omega)
  rw [Int.toNat_natCast] at hK hc0
  have hc : ∀ j u, c[j]? = some u → w.cell? (ad.add (i * 2 + j)) = some u := hc0
  obtain ⟨_, _, rfl, rfl, rfl⟩ := hK
  exact ⟨ad, e, hc 0 _ rfl, by rw [← add_field _ _ 1 (by omega)]; exact hc 1 _ rfl⟩
theorem ret_u {a b : Int} (h : a = b) : Ending.returned (.int .u64 a) = .returned (.int .u64 b) := by rw [h]
theorem ret_b {a b : Bool} (h : a = b) : Ending.returned (.bool a) = .returned (.bool b) := by rw [h]
/-- The captured nodes. -/
structure Cap (w : World) (bp : Nat) (l : List Nd) : Prop where
  m : ∃ A c, w.heap[bp]? = some (.cells #[.slice A l.length c] 22 (0, 0)) ∧ kN.C w A l.length l
theorem Cap.below {w w' : World} {bp : Nat} {l : List Nd} (h : Cap w bp l) (b : Below w.heap.size w w') : Cap w' bp l := by
  obtain ⟨A, c, h1, h2⟩ := h.m
  exact ⟨A, c, (b.block _ (blk_lt h1)).trans h1, Kd.C_below h2 b⟩
abbrev PP (b : Nat) : Value := .pointer (some ⟨b, 0, none⟩)
set_option maxHeartbeats 4000000 in
set_option maxRecDepth 100000 in
theorem startN {w : World} {bp : Nat} {l : List Nd} (h : Aside0 (Cap w bp l)) (n : Nat) (hn : n < l.length) :
    Calls Try.prog 24 #[.int .i64 (n : Int), PP bp] w fun e w' => e = .returned (uv (l.getD n z0).start) ∧ w = w' := by
  obtain ⟨A, c, h1, h2⟩ := h.out.m
  have c0 : w.cell? ⟨bp, 0, none⟩ = some (.slice A l.length c) := (blk_cell h1 0).trans rfl
  obtain ⟨ad, rfl, a0, a1, a2⟩ := at_N h2 n hn
  generalize l.getD n z0 = x at *
  clear h1 h2 a0 a1
  go_enter Try.func24, Try.ntmps24
  go_wp2
  go_ret
  exact ⟨rfl, rfl⟩
set_option maxHeartbeats 4000000 in
set_option maxRecDepth 100000 in
theorem or_ (a b : V) (w : World) : Calls Try.prog 25 #[uv a, uv b] w fun e w' => e = .returned (uv (a ||| b)) ∧ w = w' := by
  go_enter Try.func25, Try.ntmps25
  go_wp2
  go_ret
  exact ⟨ret_u (iv_or a b), rfl⟩
set_option maxHeartbeats 4000000 in
set_option maxRecDepth 100000 in
theorem and_ (a b : V) (w : World) : Calls Try.prog 14 #[uv a, uv b] w fun e w' => e = .returned (uv (a &&& b)) ∧ w = w' := by
  go_enter Try.func14, Try.ntmps14
  go_wp2
  go_ret
  exact ⟨ret_u (iv_and a b), rfl⟩
set_option maxHeartbeats 4000000 in
set_option maxRecDepth 100000 in
theorem equal_ (a b : V) (w : World) : Calls Try.prog 26 #[uv a, uv b] w fun e w' => e = .returned (.bool (decide (a = b))) ∧ w = w' := by
  by_cases h : a = b
  · subst h
    rw [decide_eq_true rfl]
    go_enter Try.func26, Try.ntmps26
    go_wp2
    go_ret
    exact ⟨rfl, rfl⟩
  · rw [decide_eq_false h]
    have h1 : (iv a == iv b) = false := beq_eq_false_iff_ne.mpr fun e => h (iv_inj e)
    replace h1 := Aside0.mk h1
    go_enter Try.func26, Try.ntmps26
    go_wp2
    go_ret
    exact ⟨ret_b h1.out, rfl⟩
def RetD (v : Value) (w : World) (e : Ending) (w' : World) : Prop := e = .returned v ∧ ∃ m, w' = w.drewN m
set_option maxHeartbeats 4000000 in
set_option maxRecDepth 100000 in
theorem flow_ {w : World} {bp : Nat} {l : List Nd} (h : Aside0 (Cap w bp l)) (n : Nat) (hn : n < l.length) (v : V) :
    Calls Try.prog 27 #[.int .i64 (n : Int), uv v, PP bp] w (RetD (uv (fl l n v)) w) := by
  obtain ⟨A, c, h1, h2⟩ := h.out.m
  have c0 : w.cell? ⟨bp, 0, none⟩ = some (.slice A l.length c) := (blk_cell h1 0).trans rfl
  obtain ⟨ad, rfl, a0, a1, a2⟩ := at_N h2 n hn
  unfold fl
  generalize l.getD n z0 = x at *
  have hq1 := iv_andNot v x.kill
  have hq2 := iv_or (v &&& ~~~x.kill) x.gen
  rw [← hq1] at hq2
  replace hq2 := Aside0.mk hq2
  clear h1 h2 a2 hq1
  have q0 : (0 : Int) ≤ (n : Int) := by omega
  have q1 : (n : Int) < (l.length : Int) := by omega
  go_enter Try.func27, Try.ntmps27
  go_wp2
  go_quiet (fail)
  go_wp2
  go_ret
  exact ⟨ret_u hq2.out, _, rfl⟩
end Go.Proofs.Ytfdhpogpeajifaa.Lat
