/- Whether a problem may be; the problem of nodes and edges. -/
import Derived.Test.YtfdhpogpeajifaaLaE
namespace Go.Proofs.Ytfdhpogpeajifaa.Lat
open Go.RowKit Go.Proofs.YtfdhpogpeajifaaW.PrintWords Go.Proofs.YtfdhpogpeajifaaW.PrintLast Go.Proofs.YtfdhpogpeajifaaW.PrintMore
set_option linter.unusedVariables false
set_option linter.unusedSimpArgs false
theorem eql_fn (w : World) (t : TypeId) (ps rs : Array TypeId) (v : Bool) (f : Fn) (a b : Array Value) (h : Try.prog.underlying t = some (.func ps rs v)) : (binOp .eql t (.func f a b) .nilFunc).run Try.prog w = .ok (.bool false) w := by
  have hd : ∀ d : Nat, (Op.equalIn (d + 1) t (.func f a b) .nilFunc).run Try.prog w = .ok false w := fun d => by
    simp [Op.equalIn, run_underlying h]
  simp only [binOp]
  simp [Op.equal, Op.maxDepth, hd 9999]
theorem eql_fn0 (w : World) (t : TypeId) (ps rs : Array TypeId) (v : Bool) (h : Try.prog.underlying t = some (.func ps rs v)) : (binOp .eql t .nilFunc .nilFunc).run Try.prog w = .ok (.bool true) w := by
  have hd : ∀ d : Nat, (Op.equalIn (d + 1) t .nilFunc .nilFunc).run Try.prog w = .ok true w := fun d => by
    simp [Op.equalIn, run_underlying h]
  simp only [binOp]
  simp [Op.equal, Op.maxDepth, hd 9999]
theorem eq30 (f : Fn) (a b : Array Value) (w : World) : (binOp .eql 30 (.func f a b) .nilFunc).run Try.prog w = .ok (.bool false) w := eql_fn w 30 _ _ _ f a b Try.underlying30
theorem eq31 (f : Fn) (a b : Array Value) (w : World) : (binOp .eql 31 (.func f a b) .nilFunc).run Try.prog w = .ok (.bool false) w := eql_fn w 31 _ _ _ f a b Try.underlying31
theorem eq32 (f : Fn) (a b : Array Value) (w : World) : (binOp .eql 32 (.func f a b) .nilFunc).run Try.prog w = .ok (.bool false) w := eql_fn w 32 _ _ _ f a b Try.underlying32
theorem eq33 (f : Fn) (a b : Array Value) (w : World) : (binOp .eql 33 (.func f a b) .nilFunc).run Try.prog w = .ok (.bool false) w := eql_fn w 33 _ _ _ f a b Try.underlying33
theorem eq33n (w : World) : (binOp .eql 33 .nilFunc .nilFunc).run Try.prog w = .ok (.bool true) w := eql_fn0 w 33 _ _ _ Try.underlying33
set_option maxHeartbeats 8000000 in
set_option maxRecDepth 100000 in
theorem may_neg {w : World} (n : Int) (hn : n < 0) (A : Option Addr) (m c : Nat) (bot : V) (f1 f2 f3 f4 : Value) :
    Calls Try.prog 21 #[pv n A m c bot f1 f2 f3 f4] w (RetB (.bool false) w) := by
  have hB : Aside0 (Below w.heap.size w (w.alloc (pb n A m c bot f1 f2 f3 f4))) := ⟨below_alloc (Below.refl _ _) _⟩
  have q30 := eq30
  have q31 := eq31
  have q32 := eq32
  have q33 := eq33
  have q33n := eq33n
  go_enter Try.func21, Try.ntmps21
  go_wp2
  go_ret
  exact ⟨rfl, hB.out⟩
set_option maxHeartbeats 8000000 in
set_option maxRecDepth 100000 in
theorem may_nil {w : World} (n : Nat) (hn : n ≤ 4096) (A : Option Addr) (m c : Nat) (bot : V) (k1 k2 k3 : Nat) (c1 c2 c3 : Array Value) :
    Calls Try.prog 21 #[pv n A m c bot (fv k1 c1) (fv k2 c2) (fv k3 c3) .nilFunc] w (RetB (.bool false) w) := by
  have hB : Aside0 (Below w.heap.size w (w.alloc (pb n A m c bot (fv k1 c1) (fv k2 c2) (fv k3 c3) .nilFunc))) := ⟨below_alloc (Below.refl _ _) _⟩
  have q30 := eq30
  have q31 := eq31
  have q32 := eq32
  have q33 := eq33
  have q33n := eq33n
  go_enter Try.func21, Try.ntmps21
  go_wp2
  go_ret
  exact ⟨rfl, hB.out⟩
set_option maxHeartbeats 8000000 in
set_option maxRecDepth 100000 in
theorem may_ {w : World} (n : Nat) (hn : n ≤ 4096) (A : Option Addr) (es : List (Int × Int)) (c : Nat) (hE : Aside0 (kE.C w A es.length es)) (bot : V) (k1 k2 k3 k4 : Nat) (c1 c2 c3 c4 : Array Value) :
    Calls Try.prog 21 #[pv n A es.length c bot (fv k1 c1) (fv k2 c2) (fv k3 c3) (fv k4 c4)] w (RetB (.bool (allOk n es)) w) := by
  have hmx := Kd.C_max hE.out
  have hX := Aside0.mk (blk_new w (pb n A es.length c bot (fv k1 c1) (fv k2 c2) (fv k3 c3) (fv k4 c4)))
  have hB : Aside0 (Below w.heap.size w (w.alloc (pb n A es.length c bot (fv k1 c1) (fv k2 c2) (fv k3 c3) (fv k4 c4)))) := ⟨below_alloc (Below.refl _ _) _⟩
  have q30 := eq30
  have q31 := eq31
  have q32 := eq32
  have q33 := eq33
  have q33n := eq33n
  go_enter Try.func21, Try.ntmps21
  go_wp2
  generalize w.alloc (pb n A es.length c bot (fv k1 c1) (fv k2 c2) (fv k3 c3) (fv k4 c4)) = W at *
  go_loopw [36] (fun i wr => ∃ k : Nat, k ≤ es.length ∧ i = .int .i64 k ∧ Aside0 (∀ j, j < k → eOk n (es.getD j (0, 0)) = true) ∧ Aside0 (Below w.heap.size w wr) ∧ Aside0 (wr.heap[w.heap.size]? = some (pb n A es.length c bot (fv k1 c1) (fv k2 c2) (fv k3 c3) (fv k4 c4)))) (fun i _ => es.length - (intOf i).toNat)
  case atStart => exact ⟨0, by omega, rfl, ⟨fun j hj => by omega⟩, hB, hX⟩
  case round =>
    obtain ⟨k, hk, rfl, hg, hb1, hx1⟩ := hrel
    clear hX hB
    by_cases hlt : k < es.length
    · obtain ⟨ad, rfl, a0, a1⟩ := at_E hE.out k hlt
      replace a0 := (hb1.out.cell (World.block_lt_of_cell? w _ a0)).trans a0
      replace a1 := (hb1.out.cell (World.block_lt_of_cell? w _ a1)).trans a1
      have hno := fun h => Aside0.mk (allOk_no (n := n) hlt h)
      have hyes : eOk n (es.getD k (0, 0)) = true → Aside0 (∀ j, j < k + 1 → eOk n (es.getD j (0, 0)) = true) := fun h => ⟨fun j hj => by
        by_cases e : j = k
        · rw [e]; exact h
        · exact hg.out j (by omega)⟩
      have hb2 := Aside0.mk (below_step hb1.out (below_alloc (Below.refl wr.heap.size wr) (eb (es.getD k (0, 0)))))
      have hx2 := Aside0.mk (blk_alloc hx1.out (eb (es.getD k (0, 0))))
      have he2 := Aside0.mk (blk_new wr (eb (es.getD k (0, 0))))
      have p0 : wr.cell? ⟨w.heap.size, 0, none⟩ = some (.int .i64 (n : Int)) := (blk_cell hx1.out 0).trans rfl
      have hpl : w.heap.size < wr.heap.size := blk_lt hx1.out
      generalize es.getD k (0, 0) = x at *
      obtain ⟨x1, x2⟩ := x
      simp only at a0 a1
      by_cases h1 : 0 ≤ x1
      · by_cases h2 : x1 < (n : Int)
        · by_cases h3 : 0 ≤ x2
          · by_cases h4 : x2 < (n : Int)
            · have hy := hyes (by unfold eOk; simp; omega)
              clear hno hyes
              go_wp2
              go_roundw
              case rel => exact ⟨k + 1, by omega, by go_num, hy, hb2, hx2⟩
              case measure => simp [intOf]; omega
            · have hq := hno (by unfold eOk; simp; omega)
              clear hno hyes
              go_wp2
              go_ret
              exact ⟨ret_b hq.out.symm, hb2.out⟩
          · have hq := hno (by unfold eOk; simp; omega)
            clear hno hyes
            go_wp2
            go_ret
            exact ⟨ret_b hq.out.symm, hb2.out⟩
        · have hq := hno (by unfold eOk; simp; omega)
          clear hno hyes
          go_wp2
          go_ret
          exact ⟨ret_b hq.out.symm, hb2.out⟩
      · have hq := hno (by unfold eOk; simp; omega)
        clear hno hyes
        go_wp2
        go_ret
        exact ⟨ret_b hq.out.symm, hb2.out⟩
    · obtain rfl : k = es.length := by omega
      have hy := Aside0.mk (allOk_yes hg.out)
      go_wp2
      go_ret
      exact ⟨ret_b hy.out.symm, hb1.out⟩
end Go.Proofs.Ytfdhpogpeajifaa.Lat
