/- chains.first and chains.link, walked. -/
import Derived.Test.YtidhkicpandmbaaIrA
import Derived.Test.YtidhkicpandmbaaRwA
import Derived.RegionTactic
import Derived.ChangeAlike
namespace Go.Proofs.Ytidhkicpandmbaa.RwB
open Go.RowKit Go.Proofs.YtidhkicpandmbaaW.PrintWords Go.Proofs.YtidhkicpandmbaaW.PrintLast Go.Proofs.Ytidhkicpandmbaa.GF Go.Proofs.Ytidhkicpandmbaa.IrA Go.Proofs.Ytidhkicpandmbaa.RwA
set_option linter.unusedVariables false
set_option linter.unusedSimpArgs false
/-- A row of ints, whole in its block. -/
def Rw (w : World) (h : Nat) (l : List Int) : Prop := w.heap[h]? = some (.cells (nums .i64 l).toArray 3 (0, 0))
theorem Rw.at_ {w : World} {h : Nat} {l : List Int} (m : Rw w h l) (i : Nat) (hi : i < l.length) : w.cell? ⟨h, i, none⟩ = some (.int .i64 (l.getD i 0)) := by
  rw [blk_cell m i]
  simp [nums, List.getD_eq_getElem?_getD, List.getElem?_eq_getElem hi]
theorem Rw.fz {w : World} {h : Nat} {l : List Int} (m : Rw w h l) (i : Nat) : w.frozen? ⟨h, i, none⟩ = false := blk_frozen m i
theorem Rw.put {w : World} {h : Nat} {l : List Int} (m : Rw w h l) (i : Nat) (x : Int) : Rw (w.setCell ⟨h, i, none⟩ (.int .i64 x)) h (l.set i x) := by
  unfold Rw
  rw [blk_set m i _]
  simp [nums, List.map_set]
theorem Rw.far {w : World} {h : Nat} {l : List Int} (m : Rw w h l) {p : Addr} (hp : h ≠ p.block) (u : Value) : Rw (w.setCell p u) h l := blk_far m hp u
theorem Rw.below {w w' : World} {h : Nat} {l : List Int} (m : Rw w h l) (hb : Below w.heap.size w w') : Rw w' h l := blk_below m hb
/-- The chains' value. -/
abbrev chv (ga gb n : Nat) : Value := .agg #[.slice (some ⟨ga, 0, none⟩) n n, .slice (some ⟨gb, 0, none⟩) n n]
abbrev cho (ga gb n : Nat) : Obj := .cells #[.slice (some ⟨ga, 0, none⟩) n n, .slice (some ⟨gb, 0, none⟩) n n] 56 (0, 0)

set_option maxHeartbeats 4000000 in
set_option maxRecDepth 100000 in
theorem first {w : World} {ga gb n : Nat} {g : G} (hb : Aside0 (Rw w gb g.b)) (hc : Aside0 (g.ok n)) (hmx : n ≤ 9223372036854775807) (x : Nat) (hx : x < n) :
    Calls Try.prog 44 #[chv ga gb n, .int .i64 (x : Int)] w (RetB (.int .i64 (g.hd x : Int)) w) := by
  have hX : Aside0 ((w.alloc (cho ga gb n)).heap[w.heap.size]? = some (cho ga gb n)) := ⟨blk_new w _⟩
  have hB : Aside0 (Below w.heap.size w (w.alloc (cho ga gb n))) := ⟨below_alloc (Below.refl _ _) _⟩
  have hb2 : Aside0 (Rw (w.alloc (cho ga gb n)) gb g.b) := ⟨hb.out.below hB.out⟩
  go_enter Try.func44, Try.ntmps44
  go_wp2
  generalize w.alloc (Obj.cells #[Value.slice (some { block := ga, off := 0 }) n n, Value.slice (some { block := gb, off := 0 }) n n] 56) = W at *
  go_loop [1] (fun v => ∃ y : Nat, y < n ∧ v = .int .i64 (y : Int) ∧ Aside0 (g.hd y = g.hd x)) (fun v => g.ix (intOf v).toNat)
  case atStart => exact ⟨x, hx, rfl, ⟨rfl⟩⟩
  case round =>
    obtain ⟨y, hy, rfl, he⟩ := hrel
    have c1 : W.cell? ⟨w.heap.size, 1, none⟩ = some (.slice (some ⟨gb, 0, none⟩) n n) := (blk_cell hX.out 1).trans rfl
    have r0 := hb2.out.at_ y (by rw [hc.out.l2]; exact hy)
    have r1 := add_plain gb y
    have q5 : (y : Int) < (n : Int) := by omega
    have q6 : (0 : Int) ≤ (y : Int) := by omega
    rcases hc.out.ah y hy with ⟨e1, e2⟩ | ⟨z, hz, e1, e2, e3⟩
    · have hh := hc.out.h3 y hy e2
      rw [e1] at r0
      have hres : Aside0 (y = g.hd x) := ⟨by rw [← he.out, hh]⟩
      clear e1 e2 hh
      go_wp2
      go_ret
      exact ⟨by rw [← hres.out]; rfl, hB.out⟩
    · rw [e1] at r0
      replace e1 := Aside0.mk e1
      replace e2 := Aside0.mk e2
      replace e3 := Aside0.mk e3
      have q7 : (0 : Int) ≤ (z : Int) := by omega
      go_wp2
      go_round
      case rel => exact ⟨z, hz, rfl, ⟨e2.out.trans he.out⟩⟩
      case measure => simp [intOf]; have := e3.out; omega
/-- All but two blocks are as they were. -/
structure Two (ga gb : Nat) (w W : World) : Prop where
  os : W.os = w.os
  tape : W.tape = w.tape
  output : W.output = w.output
  size : w.heap.size ≤ W.heap.size
  block : ∀ k, k < w.heap.size → k ≠ ga → k ≠ gb → W.heap[k]? = w.heap[k]?
theorem Two.of_below {ga gb : Nat} {w W : World} (h : Below w.heap.size w W) : Two ga gb w W := ⟨h.os, h.tape, h.output, h.size, fun k hk _ _ => h.block k hk⟩
theorem Two.drew {ga gb : Nat} {w W : World} (h : Two ga gb w W) : Two ga gb w W.drew := ⟨h.os, h.tape, h.output, h.size, h.block⟩
theorem Two.set {ga gb : Nat} {w W : World} (h : Two ga gb w W) (p : Addr) (hp : p.block = ga ∨ p.block = gb) (v : Value) : Two ga gb w (W.setCell p v) :=
  ⟨h.os, h.tape, h.output, by simpa using h.size, fun k hk h1 h2 => (Below.heap_setCell W p v k (fun e => by rcases hp with q | q <;> omega)).trans (h.block k hk h1 h2)⟩
def LinkPost (ga gb x t : Nat) (g : G) (w : World) (e : Ending) (W : World) : Prop := e = .returned (.tuple #[]) ∧ Rw W ga (linkG g x t).a ∧ Rw W gb (linkG g x t).b ∧ Two ga gb w W
theorem LinkPost.no {ga gb x t : Nat} {g : G} {w W : World} (h : ¬ linkC g x t) (ha : Rw w ga g.a) (hb : Rw w gb g.b) (hB : Below w.heap.size w W) : LinkPost ga gb x t g w (.returned (.tuple #[])) W :=
  ⟨rfl, by rw [linkG_no h]; exact ha.below hB, by rw [linkG_no h]; exact hb.below hB, .of_below hB⟩
set_option maxHeartbeats 4000000 in
set_option maxRecDepth 100000 in
theorem link {w : World} {ga gb n : Nat} {g : G} (ha : Aside0 (Rw w ga g.a)) (hb : Aside0 (Rw w gb g.b)) (hne : ga ≠ gb) (hc : Aside0 (g.ok n)) (hmx : n ≤ 9223372036854775807) (x t : Nat) (hx : x < n) (ht : t < n) :
    Calls Try.prog 29 #[chv ga gb n, .int .i64 (x : Int), .int .i64 (t : Int)] w (LinkPost ga gb x t g w) := by
  have hX : Aside0 ((w.alloc (cho ga gb n)).heap[w.heap.size]? = some (cho ga gb n)) := ⟨blk_new w _⟩
  have hB : Aside0 (Below w.heap.size w (w.alloc (cho ga gb n))) := ⟨below_alloc (Below.refl _ _) _⟩
  have ha2 : Aside0 (Rw (w.alloc (cho ga gb n)) ga g.a) := ⟨ha.out.below hB.out⟩
  have hb2 : Aside0 (Rw (w.alloc (cho ga gb n)) gb g.b) := ⟨hb.out.below hB.out⟩
  have r0 : (w.alloc (cho ga gb n)).cell? ⟨ga, x, none⟩ = some (.int .i64 (g.a.getD x 0)) := ha2.out.at_ x (by rw [hc.out.l1]; exact hx)
  have r1 : (w.alloc (cho ga gb n)).cell? ⟨gb, t, none⟩ = some (.int .i64 (g.b.getD t 0)) := hb2.out.at_ t (by rw [hc.out.l2]; exact ht)
  have c0 : (w.alloc (cho ga gb n)).cell? ⟨w.heap.size, 0, none⟩ = some (.slice (some ⟨ga, 0, none⟩) n n) := (blk_cell hX.out 0).trans rfl
  have c1 : (w.alloc (cho ga gb n)).cell? ⟨w.heap.size, 1, none⟩ = some (.slice (some ⟨gb, 0, none⟩) n n) := (blk_cell hX.out 1).trans rfl
  have p0 := add_plain ga x
  have p1 := add_plain gb t
  have q0 : (x : Int) < (n : Int) := by omega
  have q1 : (0 : Int) ≤ (x : Int) := by omega
  have q2 : (t : Int) < (n : Int) := by omega
  have q3 : (0 : Int) ≤ (t : Int) := by omega
  by_cases t0 : t = 0
  · have hno : Aside0 (¬ linkC g x t) := ⟨fun h => h.1 t0⟩
    subst t0
    go_enter Try.func29, Try.ntmps29
    go_wp2
    go_end0
    exact LinkPost.no hno.out ha.out hb.out hB.out
  have t1 : ((t : Int) != 0) = true := by simp; omega
  by_cases ax : g.a.getD x 0 < 0
  rotate_left
  · have hno : Aside0 (¬ linkC g x t) := ⟨fun h => ax h.2.1⟩
    have ax2 : 0 ≤ g.a.getD x 0 := by omega
    clear t0 ax
    generalize g.a.getD x 0 = y at *
    go_enter Try.func29, Try.ntmps29
    go_wp2
    go_end0
    exact LinkPost.no hno.out ha.out hb.out hB.out
  by_cases bt : g.b.getD t 0 < 0
  rotate_left
  · have hno : Aside0 (¬ linkC g x t) := ⟨fun h => bt h.2.2.1⟩
    have bt2 : 0 ≤ g.b.getD t 0 := by omega
    clear t0 bt
    generalize g.a.getD x 0 = y at *
    generalize g.b.getD t 0 = z at *
    go_enter Try.func29, Try.ntmps29
    go_wp2
    go_end0
    exact LinkPost.no hno.out ha.out hb.out hB.out
  have hf := Aside0.mk (first (ga := ga) hb2 hc hmx x hx)
  by_cases hh : g.hd x = t
  · have hno : Aside0 (¬ linkC g x t) := ⟨fun h => h.2.2.2 hh⟩
    rw [hh] at hf
    clear t0 hh
    generalize g.a.getD x 0 = y at *
    generalize g.b.getD t 0 = z at *
    go_enter Try.func29, Try.ntmps29
    go_wp2_with ((with_reducible refine hf.out.mono ?_); rintro e w1 ⟨rfl, hb1⟩; have hB1 := Aside0.mk (below_step hB.out hb1); clear hb1)
    go_end0
    exact LinkPost.no hno.out ha.out hb.out hB1.out
  · have hyes : Aside0 (linkC g x t) := ⟨⟨t0, ax, bt, hh⟩⟩
    have h1 : ((g.hd x : Int) != (t : Int)) = true := by simp; omega
    clear t0 hh
    generalize g.a.getD x 0 = y at *
    generalize g.b.getD t 0 = z at *
    generalize g.hd x = u at *
    go_enter Try.func29, Try.ntmps29
    go_upto_region 2 with ((with_reducible refine hf.out.mono ?_); rintro e w1 ⟨rfl, hb1⟩; have ha3 := Aside0.mk (ha2.out.below hb1); have hb3 := Aside0.mk (hb2.out.below hb1); have hB1 := Aside0.mk (below_step hB.out hb1); have hX1 := Aside0.mk (blk_below hX.out hb1); clear hb1)
    generalize hW : w.alloc (Obj.cells #[Value.slice (some { block := ga, off := 0 }) n n, Value.slice (some { block := gb, off := 0 }) n n] 56) = W at *
    replace hW := Aside0.mk hW
    have e0 : w1.cell? ⟨w.heap.size, 0, none⟩ = some (.slice (some ⟨ga, 0, none⟩) n n) := (blk_cell hX1.out 0).trans rfl
    have e1 : w1.cell? ⟨w.heap.size, 1, none⟩ = some (.slice (some ⟨gb, 0, none⟩) n n) := (blk_cell hX1.out 1).trans rfl
    have s0 : w1.cell? ⟨ga, x, none⟩ = some (.int .i64 (g.a.getD x 0)) := ha3.out.at_ x (by rw [hc.out.l1]; exact hx)
    have s1 : w1.cell? ⟨gb, t, none⟩ = some (.int .i64 (g.b.getD t 0)) := hb3.out.at_ t (by rw [hc.out.l2]; exact ht)
    have f0 := ha3.out.fz x
    have f1 := hb3.out.fz t
    generalize g.a.getD x 0 = y2 at *
    generalize g.b.getD t 0 = z2 at *
    clear r0 r1 c0 c1 hX hB ha2 hb2
    have na : ga ≠ w.heap.size := Nat.ne_of_lt (blk_lt ha.out)
    have nb : gb ≠ w.heap.size := Nat.ne_of_lt (blk_lt hb.out)
    have na' := na.symm
    have nb' := nb.symm
    have hne' := hne.symm
    have hfin : Aside0 (Rw ((w1.setCell ⟨ga, x, none⟩ (.int .i64 (t : Int))).setCell ⟨gb, t, none⟩ (.int .i64 (x : Int))) ga (linkG g x t).a ∧ Rw ((w1.setCell ⟨ga, x, none⟩ (.int .i64 (t : Int))).setCell ⟨gb, t, none⟩ (.int .i64 (x : Int))) gb (linkG g x t).b ∧ Two ga gb w ((w1.setCell ⟨ga, x, none⟩ (.int .i64 (t : Int))).setCell ⟨gb, t, none⟩ (.int .i64 (x : Int)))) := ⟨by
      rw [linkG_yes hyes.out]
      exact ⟨(ha3.out.put x t).far hne _, (hb3.out.far hne' _).put t x, ((Two.of_below hB1.out).set ⟨ga, x, none⟩ (.inl rfl) _).set ⟨gb, t, none⟩ (.inr rfl) _⟩⟩
    go_region
    go_end0
    exact ⟨rfl, hfin.out.1, hfin.out.2.1, hfin.out.2.2.drew⟩
end Go.Proofs.Ytidhkicpandmbaa.RwB
