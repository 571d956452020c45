/- Which blocks are reached: the program's Reached. -/
import Derived.Test.YtidhkicpandmbaaIrF
import Derived.Deep.DeepCutAuto
namespace Go.Proofs.Ytidhkicpandmbaa.IrA
open Go.RowKit Go.Proofs.YtidhkicpandmbaaW.PrintWords Go.Proofs.YtidhkicpandmbaaW.PrintLast Go.Proofs.YtidhkicpandmbaaW.PrintMore Go.Proofs.Ytidhkicpandmbaa.GF
set_option linter.unusedVariables false
set_option linter.unusedSimpArgs false

/-! What is computed: marks, and a row of blocks that wait (the last one first). -/
abbrev Rst := List Bool × List Int
def stepT (st : Rst) (t : Int) : Rst := if 0 ≤ t ∧ t < st.1.length then (if st.1.getD t.toNat false = true then st else (st.1.set t.toNat true, st.2 ++ [t])) else st
def turn (bs : List S39) (st : Rst) : Rst := (bs.getD (st.2.getLastD 0).toNat z39).f3.foldl stepT (st.1, st.2.dropLast)
def cntF (l : List Bool) : Nat := l.countP (· == false)
def meas (st : Rst) : Nat := cntF st.1 + st.2.length
def fin (bs : List S39) : Nat → Rst → List Bool
  | 0, st => st.1
  | k + 1, st => if st.2 = [] then st.1 else fin bs k (turn bs st)
def reached (bs : List S39) : List Bool := if bs.length = 0 then [] else fin bs bs.length ((List.replicate bs.length false).set 0 true, [0])
/-- Marks for all blocks; what waits is blocks. -/
structure Gd (n : Nat) (st : Rst) : Prop where
  len : st.1.length = n
  row : ∀ x ∈ st.2, 0 ≤ x ∧ x < n
  m : meas st ≤ n
theorem cntF_set {l : List Bool} {t : Nat} (h : t < l.length) (hf : l.getD t false = false) : cntF (l.set t true) + 1 = cntF l := by
  unfold cntF
  rw [List.getD_eq_getElem?_getD, List.getElem?_eq_getElem h] at hf
  have hf : l[t] = false := hf
  have : 0 < l.countP (fun b => b == false) := List.countP_pos_iff.2 ⟨l[t], List.getElem_mem h, by rw [hf]; rfl⟩
  rw [List.countP_set h, hf, if_pos (by rfl), if_neg (by decide)]
  omega
theorem meas_step {st : Rst} (t : Int) : meas (stepT st t) = meas st := by
  unfold stepT
  by_cases h : 0 ≤ t ∧ t < st.1.length
  · rw [if_pos h]
    by_cases hg : st.1.getD t.toNat false = true
    · rw [if_pos hg]
    · rw [if_neg hg]
      have := cntF_set (l := st.1) (t := t.toNat) (by omega) (by simpa using hg)
      unfold meas
      simp
      omega
  · rw [if_neg h]
theorem Gd.step {n : Nat} {st : Rst} (h : Gd n st) (t : Int) : Gd n (stepT st t) := by
  refine ⟨?_, ?_, by rw [meas_step]; exact h.m⟩
  · unfold stepT; split
    · split
      · exact h.len
      · simpa using h.len
    · exact h.len
  · unfold stepT; split
    · rename_i hr
      split
      · exact h.row
      · intro x hx
        rcases List.mem_append.1 hx with hx | hx
        · exact h.row x hx
        · rw [List.mem_singleton.1 hx]; exact ⟨hr.1, by have := hr.2; rw [h.len] at this; exact this⟩
    · exact h.row
theorem Gd.steps {n : Nat} : ∀ (ts : List Int) {st : Rst}, Gd n st → Gd n (ts.foldl stepT st)
  | [], _, h => h
  | t :: ts, st, h => Gd.steps ts (h.step t)
theorem meas_steps : ∀ (ts : List Int) (st : Rst), meas (ts.foldl stepT st) = meas st
  | [], _ => rfl
  | t :: ts, st => by show meas (ts.foldl stepT (stepT st t)) = _; rw [meas_steps ts, meas_step]
theorem Gd.pop {n : Nat} {st : Rst} (h : Gd n st) : Gd n (st.1, st.2.dropLast) :=
  ⟨h.len, fun x hx => h.row x (List.dropLast_subset _ hx), by have := h.m; unfold meas at this ⊢; simp; omega⟩
theorem Gd.turn {n : Nat} {bs : List S39} {st : Rst} (h : Gd n st) : Gd n (turn bs st) := Gd.steps _ h.pop
theorem meas_turn (bs : List S39) {st : Rst} (h : st.2 ≠ []) : meas (turn bs st) + 1 = meas st := by
  unfold turn
  rw [meas_steps]
  unfold meas
  have := List.length_pos_iff.2 h
  simp
  omega
theorem fin_more (bs : List S39) : ∀ (k : Nat) (st : Rst), meas st ≤ k → fin bs k st = fin bs (meas st) st
  | 0, st, h => by rw [show meas st = 0 by omega]
  | k + 1, st, h => by
    by_cases he : st.2 = []
    · cases hm : meas st with
      | zero => simp [fin, he]
      | succ m => simp [fin, he]
    · have h1 := meas_turn bs he
      obtain ⟨m, hm⟩ : ∃ m, meas st = m + 1 := ⟨meas st - 1, by omega⟩
      rw [hm]
      simp only [fin, if_neg he]
      rw [fin_more bs k _ (by omega), show meas (Go.Proofs.Ytidhkicpandmbaa.IrA.turn bs st) = m by omega]
theorem fin_turn (bs : List S39) {st : Rst} (h : st.2 ≠ []) : fin bs (meas st) st = fin bs (meas (turn bs st)) (turn bs st) := by
  have h1 := meas_turn bs h
  obtain ⟨m, hm⟩ : ∃ m, meas st = m + 1 := ⟨meas st - 1, by omega⟩
  rw [hm]
  simp only [fin, if_neg h]
  rw [show meas (turn bs st) = m by omega]
theorem fin_nil (bs : List S39) {st : Rst} (h : st.2 = []) : fin bs (meas st) st = st.1 := by
  cases hm : meas st with
  | zero => rfl
  | succ m => simp [fin, h]
theorem gd_start {n : Nat} (h : 0 < n) : Gd n ((List.replicate n false).set 0 true, [0]) := by
  refine ⟨by simp, fun x hx => by have : x = 0 := by simpa using hx
                                  subst this; omega, ?_⟩
  have := cntF_set (l := List.replicate n false) (t := 0) (by simpa using h) (by simp [List.getD_eq_getElem?_getD, List.getElem?_replicate, h])
  have h2 : cntF (List.replicate n false) = n := by unfold cntF; rw [List.countP_replicate]; simp
  unfold meas
  simp
  omega
theorem foldl_snoc (st : Rst) (ts : List Int) (j : Nat) (h : j < ts.length) : (ts.take (j + 1)).foldl stepT st = stepT ((ts.take j).foldl stepT st) (rd ts (j : Int)) := by
  rw [List.take_succ_eq_append_getElem h, List.foldl_append, rd_at ts j h]
  rfl

/-! In memory. -/
structure Rq (w W : World) (gl n cl : Nat) (v4 : Value) (fbx : Obj) (st : Rst) : Prop where
  hL : Kd.R Kd.bool 4 W w.heap.size (fun _ => True) (.slice (some ⟨gl, 0, none⟩) n cl) st.1
  hR : Kd.R (Kd.int .i64) 3 W w.heap.size (fun _ => True) v4 st.2
  hX : W.heap[w.heap.size]? = some fbx
  hB : Below w.heap.size w W
theorem Rq.next {w W W' : World} {gl n cl : Nat} {v4 : Value} {fbx : Obj} {st : Rst} (h : Rq w W gl n cl v4 fbx st) (b : Below W.heap.size W W') : Rq w W' gl n cl v4 fbx st :=
  ⟨Kd.R_below h.hL b, Kd.R_below h.hR b, (b.block _ (blk_lt h.hX)).trans h.hX, below_step h.hB b⟩
theorem Rq.form {w W : World} {gl n cl : Nat} {v4 : Value} {fbx : Obj} {st : Rst} (h : Rq w W gl n cl v4 fbx st) (hn : st.1.length = n) (h0 : 0 < n) : w.heap.size ≤ gl ∧ gl < W.heap.size ∧ ∃ cells, W.heap[gl]? = some (.cells cells 4 (0, 0)) := by
  obtain ⟨g, cap, e, h1, h2, h3⟩ := Kd.R_form h.hL (by omega)
  injection e with e _ _
  injection e with e
  injection e with e _ _
  subst e
  exact ⟨h1, h2, h3⟩
theorem Rq.at_ {w W : World} {gl n cl : Nat} {v4 : Value} {fbx : Obj} {st : Rst} (h : Rq w W gl n cl v4 fbx st) (t : Nat) (ht : t < n) (hn : st.1.length = n) : W.cell? ⟨gl, t, none⟩ = some (.bool (st.1.getD t false)) ∧ W.frozen? ⟨gl, t, none⟩ = false := by
  obtain ⟨_, _, cells, hc⟩ := h.form hn (by omega)
  obtain ⟨ad, e, hx⟩ := Kd.at_bool (Kd.R_reads' h.hL).2.2 (t : Int) (by omega) (by omega)
  cases e
  rw [add_plain] at hx
  rw [Int.toNat_natCast] at hx
  refine ⟨?_, blk_frozen hc t⟩
  rw [hx]
  simp [rdOf]
theorem Rq.put {w W : World} {gl n cl : Nat} {v4 : Value} {cs : Array Value} {st : Rst} (h : Rq w W gl n cl v4 (.cells cs 28 (0, 0)) st) (t : Nat) (ht : t < n) (hn : st.1.length = n) : Rq w (W.setCell ⟨gl, t, none⟩ (.bool true)) gl n cl v4 (.cells cs 28 (0, 0)) (st.1.set t true, st.2) := by
  obtain ⟨h1, h2, cells, hc⟩ := h.form hn (by omega)
  have hne : w.heap.size ≠ gl := fun e => by
    have := h.hX
    rw [e, hc] at this
    injection this with this
    injection this with _ this
    cases this
  have hp := (Kd.R_putg h.hL (t : Int) true).1
  rw [Int.toNat_natCast] at hp
  exact ⟨hp, Kd.R_set h.hR hc (by decide) t _, (Below.heap_setCell _ _ _ _ hne).trans h.hX, h.hB.setCell h1 _⟩
theorem Rq.push {w W w1 : World} {gl n cl : Nat} {v4 v1 : Value} {cs : Array Value} {st : Rst} {row : List Int} (h : Rq w W gl n cl v4 (.cells cs 28 (0, 0)) st) (hg : W.grownBy w1 v4.ownBlock) (ho : Kd.R (Kd.int .i64) 3 w1 w.heap.size (fun _ => True) v1 row) (hb : Below w.heap.size w w1) : Rq w w1 gl n cl v1 (.cells cs 28 (0, 0)) (st.1, row) :=
  ⟨Kd.R_over' h.hL (Kd.R_typed h.hR) (by decide) hg, ho, blk_grown h.hX hg (Kd.R_ne h.hR h.hX (by decide)), hb⟩
theorem Rq.pop {w W : World} {gl n cl m c : Nat} {A : Option Addr} {fbx : Obj} {st : Rst} (h : Rq w W gl n cl (.slice A m c) fbx st) : Rq w W gl n cl (.slice A (st.2.length - 1) c) fbx (st.1, st.2.dropLast) := by
  refine ⟨h.hL, ?_, h.hX, h.hB⟩
  rw [List.dropLast_eq_take]
  exact Kd.R_take h.hR (by omega)
def lenOf : Value → Nat
  | .slice _ n _ => n
  | _ => 0
/-- Marks are told. -/
def RetM (l : List Bool) (w : World) (e : Ending) (w' : World) : Prop := ∃ v, e = .returned v ∧ Kd.R Kd.bool 4 w' w.heap.size (fun _ => True) v l ∧ Below w.heap.size w w'
theorem info4' : (Try.prog.info? 4).map (fun i => (i.zero, i.size, i.bytes)) = some (some (.bool false), 1, 1) := by kernel_rfl

set_option maxHeartbeats 16000000 in
set_option maxRecDepth 100000 in
theorem reached_walk {w : World} (nm : ByteArray) (pa re sl : Int) (A : Option Addr) (c : Nat) (bs : List S39) (hl : Aside0 (Kd.C k39 w A bs.length bs)) (hn : bs.length ≤ 2199023255552) :
    Calls Try.prog 27 #[fv nm pa re sl A bs.length c] w (RetM (reached bs) w) := by
  have hX : Aside0 ((w.alloc (fb nm pa re sl A bs.length c)).heap[w.heap.size]? = some (fb nm pa re sl A bs.length c)) := ⟨blk_new w _⟩
  have hB : Aside0 (Below w.heap.size w (w.alloc (fb nm pa re sl A bs.length c))) := ⟨below_alloc (Below.refl _ _) _⟩
  by_cases hz : bs.length = 0
  · obtain rfl : bs = [] := List.eq_nil_of_length_eq_zero hz
    clear hz
    have q0 : ((0 : Int) == 0) = true := rfl
    go_enter Try.func27, Try.ntmps27
    go_wp2_with ((with_reducible refine gate_dst (N := 11) rfl ?_); refine Kd.R_make Kd.bool (w0 := w.alloc (fb nm pa re sl A 0 c)) _ 4 rfl (N := 11) rfl 34 _ _ rfl (0 : Int) rfl rfl Try.underlying34 (.bool false) 1 info4' rfl (by decide) (by omega) false (ok := fun _ => True) (okp := fun _ => True) rfl (fun _ hk => hk) trivial (by omega) (by omega) (Below.refl _ _) (Nat.le_refl _) ?_; intro v1 w1 hS hb hg hat; have hS1 : Aside0 (Kd.R Kd.bool 4 w1 w.heap.size (fun _ => True) v1 []) := ⟨Kd.R_lower hS hB.out.size⟩; have hB1 := Aside0.mk (below_step hB.out hb); obtain ⟨AO, cO, eO⟩ := Kd.R_slice hS1.out; subst eO; clear hS hb hg hat)
    go_ret
    exact ⟨_, rfl, hS1.out, hB1.out⟩
  · have hp : 0 < bs.length := by omega
    have q0 : ((bs.length : Int) == 0) = false := beq_eq_false_iff_ne.mpr (by omega)
    clear hz
    have hGd := Aside0.mk (gd_start hp)
    have hres : Aside0 (reached bs = fin bs (meas ((List.replicate bs.length false).set 0 true, [0])) ((List.replicate bs.length false).set 0 true, [0])) := ⟨by
      unfold reached
      rw [if_neg (by omega)]
      exact fin_more bs _ _ hGd.out.m⟩
    generalize hl0 : (List.replicate bs.length false).set 0 true = l0 at *
    replace hl0 := Aside0.mk hl0
    go_enter Try.func27, Try.ntmps27
    go_upto_region 4 with ((with_reducible refine gate_dst (N := 11) rfl ?_); refine Kd.R_make Kd.bool (w0 := w.alloc (fb nm pa re sl A bs.length c)) _ 4 rfl (N := 11) rfl 34 _ _ rfl (bs.length : Int) rfl rfl Try.underlying34 (.bool false) 1 info4' rfl (by decide) (by omega) false (ok := fun _ => True) (okp := fun _ => True) rfl (fun _ hk => hk) trivial (by omega) (by omega) (Below.refl _ _) (Nat.le_refl _) ?_; intro v1 w1 hS hb hg hat; have hS1 : Aside0 (Kd.R Kd.bool 4 w1 w.heap.size (fun _ => True) v1 (List.replicate bs.length false)) := ⟨Kd.R_lower (by rw [Int.toNat_natCast] at hS; exact hS) hB.out.size⟩; have hB1 := Aside0.mk (below_step hB.out hb); have hX1 := Aside0.mk (blk_grown hX.out hg (by simp)); obtain ⟨gl, cl, e1, _, _, _⟩ := Kd.R_form hS1.out (by simpa using hp); rw [List.length_replicate] at e1; subst e1; clear hS hb hg hat)
    have hq0 : Rq w w1 gl bs.length cl (.slice none 0 0) (fb nm pa re sl A bs.length c) (List.replicate bs.length false, []) := ⟨hS1.out, Kd.R_nil _ _ _ _ _, hX1.out, hB1.out⟩
    obtain ⟨k0, f0⟩ := hq0.at_ 0 hp (by simp)
    have hq1 := Aside0.mk (hq0.put 0 hp (by simp))
    have hap := add_plain gl 0
    clear hq0 hS1 hX1 hB1 hX hB
    go_upto_region 5 with (fail)
    clear k0 f0
    generalize w1.setCell ⟨gl, 0, none⟩ (.bool true) = W2 at *
    go_wp2_with ((with_reducible refine gate_dst (N := 18) rfl ?_); refine Kd.R_lit (Kd.int .i64) _ 3 rfl (N := 18) rfl (xs := ([0] : List Int)) (inner := [.int .i64 0]) (ok := fun _ => True) (okp := fun _ => True) ?hr ?hp (fun _ hk => hk) trivial (Below.refl _ _) (Nat.le_refl _) (by simp) ?_; (case hr => first | (go_simp; done) | (go_simp; rfl)); (case hp => exact (Reps.one (show Kd.M (Kd.int .i64) _ _ _ 0 [.int .i64 0] from rfl) (Reps.none _ _))); intro v4 W3 ho hb hg hat; have hq3 : Aside0 (Rq w W3 gl bs.length cl v4 (fb nm pa re sl A bs.length c) (l0, [0])) := ⟨by have h := hq1.out.next hb; have h2 := Kd.R_lower ho hq1.out.hB.size; rw [← hl0.out]; exact ⟨h.hL, h2, h.hX, h.hB⟩⟩; clear ho hb hg hat)
    clear hq1 hl0
    go_loopg [4] (meas (l0, [0])) (fun kq v wr => ∃ st : Rst, kq = meas st ∧ Aside0 (Rq w wr gl bs.length cl v (fb nm pa re sl A bs.length c) st) ∧ Aside0 (Gd bs.length st) ∧ Aside0 (fin bs (meas st) st = reached bs))
    case atStart => exact ⟨(l0, [0]), rfl, hq3, hGd, ⟨hres.out.symm⟩⟩
    case round =>
      obtain ⟨st, rfl, hq, hgd, hF⟩ := hrel
      clear hq3 hGd hres
      obtain ⟨A4, c4, rfl⟩ := Kd.R_slice hq.out.hR
      have hmr : st.2.length ≤ bs.length := by have := hgd.out.m; unfold meas at this; omega
      by_cases he : st.2.length = 0
      · have he2 : st.2 = [] := List.eq_nil_of_length_eq_zero he
        have hr2 : Aside0 (st.1 = reached bs) := ⟨by rw [← hF.out, fin_nil bs he2]⟩
        have q1 : decide ((0 : Int) < (st.2.length : Int)) = false := decide_eq_false (by omega)
        have q2 : decide (0 < st.2.length) = false := decide_eq_false (by omega)
        clear he he2
        go_wp2
        go_ret
        exact ⟨_, rfl, by rw [← hr2.out]; exact hq.out.hL, hq.out.hB⟩
      · have he2 : st.2 ≠ [] := fun e => he (by rw [e]; rfl)
        have hmt := meas_turn bs he2
        have hft := Aside0.mk (fin_turn bs he2)
        have hgt := Aside0.mk (hgd.out.turn (bs := bs))
        have hpos : 0 < st.2.length := by omega
        have hx := hgd.out.row (st.2.getLastD 0) (by rw [List.getLastD_eq_getLast?, List.getLast?_eq_some_getLast he2]; exact List.getLast_mem he2)
        obtain ⟨x, hxe⟩ := Int.eq_ofNat_of_zero_le hx.1
        have hxn : x < bs.length := by omega
        have htu : Aside0 (turn bs st = (bs.getD x z39).f3.foldl stepT (st.1, st.2.dropLast)) := ⟨by unfold turn; rw [hxe]; rfl⟩
        obtain ⟨a4, e, r0⟩ := Kd.at_int (Kd.R_reads' hq.out.hR).2.2 ((st.2.length - 1 : Nat) : Int) (by omega) (by omega)
        cases e
        simp only [Int.toNat_natCast] at r0
        have hrd : rd st.2 ((st.2.length - 1 : Nat) : Int) = (x : Int) := by
          rw [← hxe, rd_at _ _ (by omega), List.getLastD_eq_getLast?, List.getLast?_eq_some_getLast he2, Option.getD_some, List.getLast_eq_getElem]
        rw [hrd] at r0
        obtain ⟨ad, B0, d0, B3, d3, e, x0, x1, x2, x3, l0', g0', l3, g3'⟩ := at_T39 hl.out (x : Int) (by omega) (by omega)
        cases e
        simp only [Int.toNat_natCast] at x0 x1 x2 x3
        replace x0 := (hq.out.hB.cell (World.block_lt_of_cell? w _ x0)).trans x0
        replace x1 := (hq.out.hB.cell (World.block_lt_of_cell? w _ x1)).trans x1
        replace x2 := (hq.out.hB.cell (World.block_lt_of_cell? w _ x2)).trans x2
        replace x3 := (hq.out.hB.cell (World.block_lt_of_cell? w _ x3)).trans x3
        have eb : rd_T39 bs (x : Int) = bs.getD x z39 := by simp [rd_T39]
        rw [eb] at x0 x1 x2 x3 g3'
        generalize bs.getD x z39 = b at *
        replace g3' := Aside0.mk g3'
        have hmx3 := Kd.C_max g3'.out
        have y4 : wr.cell? ⟨w.heap.size, 4, none⟩ = some (.slice (some ad) bs.length c) := (blk_cell hq.out.hX 4).trans rfl
        have hwl : IntKind.i64.wrap ((st.2.length : Int) - 1) = ((st.2.length - 1 : Nat) : Int) := by rw [IntWalk.i64_in _ (by omega)]; omega
        have q1 : decide ((0 : Int) < (st.2.length : Int)) = true := decide_eq_true (by omega)
        have q2 : decide (0 < st.2.length) = true := decide_eq_true (by omega)
        have q3 : ((st.2.length - 1 : Nat) : Int) < (st.2.length : Int) := by omega
        have q4 : st.2.length - 1 < st.2.length := by omega
        have q5 : (x : Int) < (bs.length : Int) := by omega
        clear hrd hxe hx l0' g0' l3 eb he he2
        replace hmt := Aside0.mk hmt
        have hsl : ∀ W : World, (Instr.slice 29 (.slice (some a4) st.2.length c4) none (some (.int .i64 ((st.2.length - 1 : Nat) : Int))) none).run Try.prog W = .ok (.slice (some a4) (st.2.length - 1) c4) W := by
          obtain ⟨i0, hi, _⟩ := Option.map_eq_some_iff.1 info3'
          have := cut_to 29 3 .i64 Try.underlying29 hi (some a4) st.2.length c4 ((st.2.length - 1 : Nat) : Int) (by omega) (by omega) (Kd.R_reads' hq.out.hR).2.1
          rwa [Int.toNat_natCast] at this
        have hq5 := Aside0.mk ((hq.out.next (show Below wr.heap.size wr wr.drew from ⟨rfl, rfl, rfl, Nat.le_refl _, fun _ _ => rfl⟩)).next (below_alloc (Below.refl wr.drew.heap.size wr.drew) (bb b B0 B3 d0 d3)))
        have hq6 := Aside0.mk hq5.out.pop
        have hg6 := Aside0.mk hgd.out.pop
        have ft0 : Aside0 ((st.1, st.2.dropLast) = (b.f3.take 0).foldl stepT (st.1, st.2.dropLast)) := ⟨rfl⟩
        have n0 := World.new_ne wr _ y4
        have n1 := World.new_ne wr _ r0
        have n2 := World.new_ne wr _ x0
        have n3 := World.new_ne wr _ x1
        have n4 := World.new_ne wr _ x2
        have n5 := World.new_ne wr _ x3
        go_upto_region 7 with (fail)
        go_cut [5] (fun s5 wx => ∃ Y, s5 = .pointer (some ⟨Y, 0, none⟩) ∧ Aside0 (wx.heap[Y]? = some (bb b B0 B3 d0 d3)) ∧ Aside0 (Below wr.heap.size wr wx))
        case first =>
          go_region_held3 (fun w' => w'.cell? ⟨w.heap.size, 4, none⟩ = some (.slice (some ad) bs.length c) ∧ w'.cell? (a4.add (st.2.length - 1)) = some (.int .i64 (x : Int)) ∧ w'.cell? (ad.add (x * 4)) = some (.slice B0 b.f0.length d0) ∧ w'.cell? ⟨(ad.add (x * 4)).block, (ad.add (x * 4)).off + 1, none⟩ = some (.int .i64 b.f1) ∧ w'.cell? ⟨(ad.add (x * 4)).block, (ad.add (x * 4)).off + 2, none⟩ = some (.int .i64 b.f2) ∧ w'.cell? ⟨(ad.add (x * 4)).block, (ad.add (x * 4)).off + 3, none⟩ = some (.slice B3 b.f3.length d3)) (go_keep) (fail)
          all_goals
            go_wp2_with fail
            go_meet
            exact ⟨wr.heap.size, rfl, ⟨blk_new wr.drew (bb b B0 B3 d0 d3)⟩, ⟨below_step (show Below wr.heap.size wr wr.drew from ⟨rfl, rfl, rfl, Nat.le_refl _, fun _ _ => rfl⟩) (below_alloc (Below.refl _ _) _)⟩⟩
        case rest =>
          obtain ⟨Y, rfl, hY, hb5⟩ := hcut
          have hq5 := Aside0.mk (hq.out.next hb5.out)
          have hq6 := Aside0.mk hq5.out.pop
          have hg6 := Aside0.mk hgd.out.pop
          have v3 := (blk_cell hY.out 3).trans (show _ = some (.slice B3 b.f3.length d3) from rfl)
          clear y4 r0 q3 q4 q5 hq5 hq n0 n1 n2 n3 n4 n5 x0 x1 x2 x3 hb5 hY
          go_wp2
          clear v3
          go_loopw [4, 40] (fun v i wq => ∃ q : Nat, q ≤ b.f3.length ∧ i = .int .i64 q ∧ Aside0 (Rq w wq gl bs.length cl v (fb nm pa re sl (some ad) bs.length c) ((b.f3.take q).foldl stepT (st.1, st.2.dropLast))) ∧ Aside0 (Gd bs.length ((b.f3.take q).foldl stepT (st.1, st.2.dropLast)))) (fun _ i _ => b.f3.length - (intOf i).toNat)
          case atStart => exact ⟨0, by omega, rfl, hq6, hg6⟩
          case round =>
            obtain ⟨q, hqq, rfl, hq7, hg7⟩ := hrel
            clear hq6 hg6
            by_cases hqt : q < b.f3.length
            · obtain ⟨a3, e, z0⟩ := Kd.at_int g3'.out q (by omega) (by omega)
              cases e
              simp only [Int.toNat_natCast] at z0
              replace z0 := (hq7.out.hB.cell (World.block_lt_of_cell? w _ z0)).trans z0
              have hst := Aside0.mk (foldl_snoc (st.1, st.2.dropLast) b.f3 q hqt)
              have hg8 := hg7.out.step (rd b.f3 (q : Int))
              generalize (b.f3.take q).foldl stepT (st.1, st.2.dropLast) = s7 at *
              generalize rd b.f3 (q : Int) = y at *
              have hlen7 := hg7.out.len
              have hm7 : s7.2.length ≤ bs.length := by have := hg7.out.m; unfold meas at this; omega
              have hwq := Aside0.mk (fun w => within y 0 ((bs.length : Int) - 1) w)
              have hwn : IntKind.i64.wrap ((bs.length : Int) - 1) = (bs.length : Int) - 1 := IntWalk.i64_in _ (by omega)
              replace hlen7 := Aside0.mk hlen7
              cases hin2 : wi y 0 ((bs.length : Int) - 1)
              · rw [hin2] at hwq
                have hs8 : stepT s7 y = s7 := by unfold stepT; rw [if_neg]; rw [hlen7.out]; unfold wi at hin2; simp at hin2; omega
                rw [hs8] at hst hg8
                clear hs8 hin2 hg8
                go_wp2_with ((with_reducible refine (hwq.out _).mono ?_); rintro e w' ⟨rfl, rfl⟩)
                exact ⟨⟨q + 1, by omega, by go_num, by rw [hst.out]; exact hq7, by rw [hst.out]; exact hg7⟩, by simp [intOf]; omega⟩
              · rw [hin2] at hwq
                have hyr : 0 ≤ y ∧ y < bs.length := by unfold wi at hin2; simp at hin2; omega
                clear hin2
                obtain ⟨y00, hyt⟩ := hyr
                obtain ⟨t, rfl⟩ := Int.eq_ofNat_of_zero_le y00
                have ht : t < bs.length := by omega
                obtain ⟨k0, f0⟩ := hq7.out.at_ t ht hlen7.out
                have hap := add_plain gl t
                have hs8 : stepT s7 (t : Int) = if s7.1.getD t false = true then s7 else (s7.1.set t true, s7.2 ++ [(t : Int)]) := by
                  unfold stepT
                  rw [if_pos ⟨by omega, by rw [hlen7.out]; omega⟩, Int.toNat_natCast]
                have hput := Aside0.mk (hq7.out.put t ht hlen7.out)
                cases hv : s7.1.getD t false
                · rw [hv] at k0 hs8
                  have hs9 : stepT s7 (t : Int) = (s7.1.set t true, s7.2 ++ [(t : Int)]) := by rw [hs8]; rfl
                  rw [hs9] at hst hg8
                  replace hg8 := Aside0.mk hg8
                  clear hs8 hs9 hv
                  go_upto_region 14 with ((with_reducible refine (hwq.out _).mono ?_); rintro e w' ⟨rfl, rfl⟩)
                  clear k0 f0 z0
                  generalize wr.setCell ⟨gl, t, none⟩ (.bool true) = W9 at *
                  obtain ⟨A5, c5, rfl⟩ := Kd.R_slice hput.out.hR
                  go_wp2_with (at_builtin; go_loud ((refine Kd.R_append (Kd.int .i64) (w0 := w) w.heap.size rfl (.tmp 59) (.tmp 61) 29 3 (.int .i64 0) 8 rfl Try.underlying29 info3' rfl (by decide) (by omega) (.slice A5 s7.2.length c5) s7.2 (t : Int) [.int .i64 (t : Int)] (fun _ => True) (fun _ => False) rfl rfl ?aP (fun _ hk => hk.elim) ?aF ?aO ?aB ?aS ?aL ?_; (case aP => exact rfl); (case aB => exact hput.out.hB); (case aF => exact fun _ _ => trivial); (case aO => exact hput.out.hR); (case aS => exact below_size hput.out.hB); (case aL => omega); intro v1 w1 ho hb hg hat; have hq9 := Aside0.mk (hput.out.push hg ho hb); obtain ⟨A6, c6, rfl⟩ := Kd.R_slice ho; simp only [List.length_append, List.length_cons, List.length_nil, Nat.zero_add] at hq9; clear ho hb hg hat)))
                  exact ⟨⟨q + 1, by omega, by go_num, by rw [hst.out]; exact hq9, by rw [hst.out]; exact hg8⟩, by simp [intOf]; omega⟩
                · rw [hv] at k0 hs8
                  have hs9 : stepT s7 (t : Int) = s7 := by rw [hs8]; rfl
                  rw [hs9] at hst hg8
                  clear hs8 hs9 hv hput hg8
                  go_wp2_with ((with_reducible refine (hwq.out _).mono ?_); rintro e w' ⟨rfl, rfl⟩)
                  exact ⟨⟨q + 1, by omega, by go_num, by rw [hst.out]; exact hq7, by rw [hst.out]; exact hg7⟩, by simp [intOf]; omega⟩
            · obtain rfl : q = b.f3.length := by omega
              rw [List.take_length] at hq7 hg7
              rw [← htu.out] at hq7 hg7
              go_wp2
              go_roundg (meas (turn bs st))
              case measure => have := hmt.out; omega
              case rel => exact ⟨turn bs st, rfl, hq7, hg7, ⟨by rw [← hft.out]; exact hF.out⟩⟩
end Go.Proofs.Ytidhkicpandmbaa.IrA
