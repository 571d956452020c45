/- A set joined: the question by which a program shows that it is awake. -/
import Derived.Test.YtfdhpogpeajifaaLaK
import Derived.Test.YtfdhpogpeajifaaPLatticeSolvesx1
import Derived.Test.YtfdhpogpeajifaaPLatticeSolvesx2
namespace Go.Proofs.Ytfdhpogpeajifaa.Lat
open Go.RowKit Go.Proofs.YtfdhpogpeajifaaW.PrintWords Go.Proofs.YtfdhpogpeajifaaW.PrintLast Go.Proofs.YtfdhpogpeajifaaW.PrintMore Go.Proofs.Ytfdhpogpeajifaa.PLatticeSolves
set_option linter.unusedVariables false
set_option linter.unusedSimpArgs false
theorem grown_below {w w1 : World} (h : w.grownBy w1 none) : Below w.heap.size w w1 := ⟨h.os, h.tape, h.output, h.size, fun i hi => h.block i hi (by simp)⟩
theorem info29' : (Try.prog.info? 29).map (fun i => (i.zero, i.size, i.bytes)) = some (some (.int .u64 0), 1, 8) := by kernel_rfl
abbrev RU (w : World) (base : Nat) (v : Value) (l : List Int) : Prop := Kd.R (Kd.int .u64) 29 w base (fun _ => True) v l
theorem empty_R (W : World) (base : Nat) (hb : base ≤ W.heap.size) : RU (W.alloc (.cells #[] 29)) base (.slice (some ⟨W.heap.size, 0, none⟩) 0 0) [] :=
  Kd.R_of_own (own_lit W base 29 .u64 [] hb (by simp)) (fun _ _ => trivial)
/-- A copy of a row. -/
def RetC (l : List Int) (w : World) (e : Ending) (w' : World) : Prop := ∃ v, e = .returned v ∧ RU w' w.heap.size v l ∧ Below w.heap.size w w'
set_option maxHeartbeats 8000000 in
set_option maxRecDepth 100000 in
theorem clone_ {w : World} (ad : Addr) (l : List Int) (c : Nat) (hl : Aside0 ((Kd.int .u64).C w (some ad) l.length l)) (hn : l.length ≤ 1000000) :
    Calls Try.prog 28 #[.slice (some ad) l.length c] w (RetC l w) := by
  have heq := fun W => Lib.run_eql_slice_nil (P := Try.prog) W 25 29 (some ad) l.length c 0 0 Try.underlying25
  have hE := Aside0.mk (empty_R w w.heap.size (Nat.le_refl _))
  have hB : Aside0 (Below w.heap.size w (w.alloc (.cells #[] 29))) := ⟨below_alloc (Below.refl _ _) _⟩
  go_enter Try.func28, Try.ntmps28
  go_wp2_with (at_builtin; (refine Kd.R_append_rows (Kd.int .u64) (Rr := (Kd.int .u64).K (w.alloc (.cells #[] 29))) (w0 := w) w.heap.size rfl (.tmp 5) (.tmp 6) 25 29 (.int .u64 0) 8 rfl Try.underlying25 info29' rfl (by decide) (by omega) (.slice (some ⟨w.heap.size, 0, none⟩) 0 0) [] l (some ad) l.length c (fun _ => True) (fun _ => False) rfl rfl hE.out (Kd.C_below hl.out hB.out) (fun _ _ h => h) (fun _ h => h.elim) (fun _ _ => trivial) hB.out hB.out.size (by simp; omega) ?_; intro v1 w1 ho hb hg hat; replace ho := Aside0.mk ho; replace hb := Aside0.mk hb))
  go_ret
  exact ⟨_, rfl, ho.out, hb.out⟩
/-- Two sets of one word each. -/
def RetU (x : Int) (w : World) (e : Ending) (w' : World) : Prop := ∃ v, e = .returned (.agg #[v]) ∧ RU w' w.heap.size v [x] ∧ Below w.heap.size w w'
set_option maxHeartbeats 8000000 in
set_option maxRecDepth 100000 in
theorem union1 {w : World} (a1 a2 : Addr) (x y : Int) (c1 c2 : Nat) (h1 : Aside0 ((Kd.int .u64).C w (some a1) 1 [x])) (h2 : Aside0 ((Kd.int .u64).C w (some a2) 1 [y])) (hx : Aside0 (Go.bits .or .u64 x y = Go.bits .or .u64 x y)) :
    Calls Try.prog 17 #[.agg #[.slice (some a1) 1 c1], .agg #[.slice (some a2) 1 c2]] w (RetU (Go.bits .or .u64 x y) w) := by
  obtain ⟨W, hW⟩ : ∃ W : World, W = ((w.alloc (.cells #[.slice (some a1) 1 c1] 47)).alloc (.cells #[.slice (some a2) 1 c2] 47)).alloc (.cells #[.slice none 0 0] 47) := ⟨_, rfl⟩
  have hB : Aside0 (Below w.heap.size w W) := ⟨by rw [hW]; exact below_alloc (below_alloc (below_alloc (Below.refl _ _) _) _) _⟩
  have hX : Aside0 (W.heap[w.heap.size]? = some (.cells #[.slice (some a1) 1 c1] 47 (0, 0))) := ⟨by rw [hW]; exact blk_alloc (blk_alloc (blk_new w _) _) _⟩
  have hY : Aside0 (W.heap[w.heap.size + 1]? = some (.cells #[.slice (some a2) 1 c2] 47 (0, 0))) := ⟨by
    rw [hW]; have := blk_new (w.alloc (.cells #[.slice (some a1) 1 c1] 47)) (.cells #[.slice (some a2) 1 c2] 47); rw [show (w.alloc (.cells #[.slice (some a1) 1 c1] 47)).heap.size = w.heap.size + 1 by simp] at this; exact blk_alloc this _⟩
  have hZ : Aside0 (W.heap[w.heap.size + 1 + 1]? = some (.cells #[.slice none 0 0] 47 (0, 0))) := ⟨by
    rw [hW]; have := blk_new ((w.alloc (.cells #[.slice (some a1) 1 c1] 47)).alloc (.cells #[.slice (some a2) 1 c2] 47)) (.cells #[.slice none 0 0] 47); simpa using this⟩
  replace hW := Aside0.mk hW
  have hcl : ∀ W', Below w.heap.size w W' → Aside0 (Calls Try.prog 28 #[.slice (some a1) 1 c1] W' (RetC [x] W')) := fun W' (b : Below w.heap.size w W') => Aside0.mk (clone_ (w := W') a1 [x] c1 ⟨Kd.C_below h1.out b⟩ (by simp))
  go_enter Try.func17, Try.ntmps17
  go_upto_region 1 with (fail)
  rw [← hW.out]
  clear hW
  have y0 : W.cell? ⟨w.heap.size, 0, none⟩ = some (.slice (some a1) 1 c1) := (blk_cell hX.out 0).trans rfl
  have y1 : W.cell? ⟨w.heap.size + 1, 0, none⟩ = some (.slice (some a2) 1 c2) := (blk_cell hY.out 0).trans rfl
  go_upto_region 4 with (go_at_call 28; (with_reducible refine (hcl _ hB.out).out.mono ?_); rintro e w1 ⟨v, rfl, ho, hb⟩; replace ho := Aside0.mk ho; replace hb := Aside0.mk hb)
  clear y0 y1 hcl
  have hB1 := Aside0.mk (below_step hB.out hb.out)
  have hY1 := Aside0.mk (blk_below hY.out hb.out)
  have hZ1 := Aside0.mk (blk_below hZ.out hb.out)
  have hlo := Aside0.mk hb.out.size
  have hlw := Aside0.mk (blk_lt hZ.out)
  clear hb hB hX hY hZ
  have y1 : w1.cell? ⟨w.heap.size + 1, 0, none⟩ = some (.slice (some a2) 1 c2) := (blk_cell hY1.out 0).trans rfl
  obtain ⟨gv, cv, rfl, hgb, hgl, cells, hgc⟩ := Kd.R_form ho.out (by simp)
  obtain ⟨ad2, e2, x2⟩ := Kd.at_int (Kd.C_below h2.out hB1.out) 0 (by omega) (by simp)
  cases e2
  obtain ⟨x3, f3⟩ := Kd.R_cell 0 ho.out 0 (by omega) (by simp)
  simp only [rd, rdOf, List.getD_cons_zero, Int.toNat_zero, Addr.add_zero'] at x2 x3 f3
  have hp := Kd.R_put ho.out 0 (Go.bits .or .u64 x y)
  simp only [List.set_cons_zero, Int.toNat_zero, Value.int] at hp
  replace hp := Aside0.mk hp
  have hgz : Aside0 (gv ≠ w.heap.size + 1 + 1) := ⟨fun e => by rw [e, hZ1.out] at hgc; injection hgc with hgc; injection hgc with _ hgc; cases hgc⟩
  have hgw : Aside0 (w.heap.size ≤ gv) := ⟨by have := hlo.out; have := hlw.out; omega⟩
  replace hgb := Aside0.mk hgb
  replace hgl := Aside0.mk hgl
  clear hgc
  have hZ2 := Aside0.mk (blk_far (p := ⟨gv, 0, none⟩) hZ1.out (fun e => hgz.out e.symm) (.int .u64 (Go.bits .or .u64 x y)))
  have z2 : (w1.setCell ⟨gv, 0, none⟩ (.int .u64 (Go.bits .or .u64 x y))).cell? ⟨w.heap.size + 1 + 1, 0, none⟩ = some (.slice none 0 0) := (blk_cell hZ2.out 0).trans rfl
  have fz2 : (w1.setCell ⟨gv, 0, none⟩ (.int .u64 (Go.bits .or .u64 x y))).frozen? ⟨w.heap.size + 1 + 1, 0, none⟩ = false := blk_frozen hZ2.out 0
  go_wp2_with fail
  refine wp_loop_rounds 2 ?_
  rw [rounds_succ]
  go_wp2_with fail
  rw [rounds_succ]
  go_wp2_with fail
  have hR := Kd.R_set (Kd.R_lower hp.out.1 (Nat.le_trans (Nat.le_succ_of_le (Nat.le_succ _)) (Nat.le_of_lt hlw.out))) hZ2.out (by decide) 0 (.slice (some ⟨gv, 0, none⟩) 1 cv)
  have hBf : Below w.heap.size w _ := below_set (g := w.heap.size + 1 + 1) (j := 0) (v := .slice (some ⟨gv, 0, none⟩) 1 cv) (below_set (g := gv) (j := 0) (v := .int .u64 (Go.bits .or .u64 x y)) hB1.out hgw.out) (by omega)
  exact bodyPost_ret (results_cell_row rfl _ _ (w.heap.size + 1 + 1) 47 #[.slice (some ⟨gv, 0, none⟩) 1 cv] (0, 0) _ rfl (blk_put hZ2.out 0 _ rfl) Try.underlying47 rfl (by kernel_rfl)) rfl ⟨_, rfl, hR, hBf⟩
set_option maxHeartbeats 8000000 in
set_option maxRecDepth 100000 in
theorem awake_ (w : World) : Calls Try.prog 8 #[] w (RetB (.bool true) w) := by
  have lit3 := fun (W : World) (l : List Int) (hl : l.length ≤ 10) => (Kd.R_reads' (Kd.R_of_own (h1 := fun _ => rfl) (own_lit W 0 3 .i64 l (Nat.zero_le _) (by omega)) (fun _ _ => trivial) : Kd.R (Kd.int .i64) 3 (W.alloc (.cells (nums .i64 l).toArray 3)) 0 (fun _ => True) (.slice (some ⟨W.heap.size, 0, none⟩) l.length l.length) l)).2.2
  have hC1 := Aside0.mk (lit3 w [3, 1] (by simp))
  have hB1 : Aside0 (Below w.heap.size w (w.alloc (.cells #[.int .i64 3, .int .i64 1] 3))) := ⟨below_alloc (Below.refl _ _) _⟩
  replace lit3 := Aside0.mk lit3
  go_enter Try.func8, Try.ntmps8
  go_wp2_with fail
  refine (lattice_NewSet.calls 20 (some ⟨w.heap.size, 0, none⟩) 2 [3, 1] [10] _ hC1.out (by decide) (by kernel_rfl)).mono ?_
  rintro e w1 ⟨v1, rfl, ho1, hb1⟩
  replace hB1 := Aside0.mk (below_step hB1.out hb1)
  obtain ⟨a1, c1, rfl⟩ := Kd.R_slice1 ho1 (by simp)
  have hD1 := Aside0.mk (Kd.R_reads' ho1).2.2
  clear ho1 hb1 hC1
  have hC2 := Aside0.mk (lit3.out w1 [2] (by simp))
  have hB2 := Aside0.mk (below_alloc hB1.out (.cells #[.int .i64 2] 3))
  have hE2 := Aside0.mk (Kd.C_alloc hD1.out (.cells #[.int .i64 2] 3))
  go_wp2_with fail
  refine (lattice_NewSet.calls 20 (some ⟨w1.heap.size, 0, none⟩) 1 [2] [4] _ hC2.out (by decide) (by kernel_rfl)).mono ?_
  rintro e w2 ⟨v2, rfl, ho2, hb2⟩
  replace hB2 := Aside0.mk (below_step hB2.out hb2)
  obtain ⟨a2, c2, rfl⟩ := Kd.R_slice1 ho2 (by simp)
  have hD2 := Aside0.mk (Kd.R_reads' ho2).2.2
  replace hE2 := Aside0.mk (Kd.C_below hE2.out hb2)
  clear ho2 hb2 hC2 hD1 hB1
  have hun := union1 a1 a2 10 4 c1 c2 hE2 hD2 ⟨rfl⟩
  go_upto_region 2 with (go_at_call 17; (with_reducible refine hun.mono ?_); rintro e w3 ⟨v3, rfl, ho3, hb3⟩; obtain ⟨a3, c3, rfl⟩ := Kd.R_slice1 ho3 (by simp); replace ho3 := Aside0.mk ho3; replace hb3 := Aside0.mk hb3)
  have hU := Aside0.mk (blk_new w3 (.cells #[.slice (some a3) 1 c3] 47))
  have hB4 := Aside0.mk (below_alloc (below_step hB2.out hb3.out) (.cells #[.slice (some a3) 1 c3] 47))
  have hC4 : Aside0 ((Kd.int .u64).C (w3.alloc (.cells #[.slice (some a3) 1 c3] 47)) (some a3) 1 [14]) := ⟨Kd.C_alloc (show (Kd.int .u64).C w3 (some a3) 1 [14] from (Kd.R_reads' ho3.out).2.2) _⟩
  have hc4 : Aside0 (1 ≤ c3) := ⟨(Kd.R_reads' ho3.out).2.1⟩
  generalize w3.alloc (.cells #[.slice (some a3) 1 c3] 47) = wu at *
  generalize w3.heap.size = pu at *
  clear hun hb3 ho3 hB2 hE2 hD2 lit3
  refine start_ (n := 19) (S := fun w' => w'.cell? ⟨pu, 0, none⟩ = some (.slice (some a3) 1 c3)) (ds := []) #[false, false, false, false, false, false, false, false, false, false, false, false, false, false, false, false, false, false, false] (by kernel_rfl) rfl rfl ((blk_cell hU.out 0).trans rfl) (fun hHeld => ?_)
  replace hU : Aside0 (wu.drew.heap[pu]? = _) := ⟨hU.out⟩
  replace hB4 : Aside0 (Below w.heap.size w wu.drew) := ⟨below_drew hB4.out⟩
  replace hC4 : Aside0 ((Kd.int .u64).C wu.drew (some a3) 1 [14]) := ⟨Kd.C_drew hC4.out⟩
  generalize wu.drew = v0 at *
  refine take_ (i := 0) (N := some 7) (v := ?_) (a' := ?_) #[true, false, false, false, false, false, false, false, false, false, false, false, false, false, false, false, false, false, false] rfl rfl (by kernel_rfl) (fun _ _ _ h => h) (Or.inl ⟨by rfl, ?_⟩) hHeld ?_ ?_
  rotate_left
  · intro w' s0
    go_simp
    try with_reducible rfl
  rotate_left
  · simp only [Act.put, List.setIfInBounds_toArray, List.set_cons_zero, List.set_cons_succ]
    rfl
  refine one_ (i := 1) (N := some 8) #[true, true, false, false, false, false, false, false, false, false, false, false, false, false, false, false, false, false, false] rfl rfl (by kernel_rfl) (by decide) (fun K hK => ?_)
  refine call_ 18 #[.agg #[.slice (some a3) 1 c3]] (by rfl) rfl (by go_simp) ?_
  refine (lattice_Set_Len.calls 20 (some a3) c3 [14] 3 v0 hC4.out hc4.out (by kernel_rfl)).mono ?_
  rintro e v1 ⟨rfl, hb⟩
  refine ⟨_, rfl, ?_⟩
  replace hU := Aside0.mk (blk_below hU.out hb)
  replace hB4 := Aside0.mk (below_step hB4.out hb)
  replace hC4 := Aside0.mk (Kd.C_below hC4.out hb)
  clear hb
  refine hK.out _ _ ((blk_cell hU.out 0).trans rfl) (fun hHeld => ?_)
  clear hK K
  refine norm_ (a' := ?_) ?_ ?_
  rotate_left
  · simp only [Act.put, List.setIfInBounds_toArray, List.set_cons_zero, List.set_cons_succ]
    rfl
  refine pure_ (i := 2) (N := some 9) (v := ?_) (a' := ?_) #[true, true, true, false, false, false, false, false, false, false, false, false, false, false, false, false, false, false, false] rfl rfl (by kernel_rfl) (fun _ _ _ h => h) (Or.inl ⟨by rfl, ?_⟩) ?_ ?_
  rotate_left
  · intro w'
    go_simp
    try with_reducible rfl
  rotate_left
  · simp only [Act.put, List.setIfInBounds_toArray, List.set_cons_zero, List.set_cons_succ]
    rfl
  refine pure_ (i := 3) (N := some 10) (v := ?_) (a' := ?_) #[true, true, true, true, false, false, false, false, false, false, false, false, false, false, false, false, false, false, false] rfl rfl (by kernel_rfl) (fun _ _ _ h => h) (Or.inl ⟨by rfl, ?_⟩) ?_ ?_
  rotate_left
  · intro w'
    go_simp
    try with_reducible rfl
  rotate_left
  · simp only [Act.put, List.setIfInBounds_toArray, List.set_cons_zero, List.set_cons_succ]
    rfl
  refine take_ (i := 4) (N := some 11) (v := ?_) (a' := ?_) #[true, true, true, true, true, false, false, false, false, false, false, false, false, false, false, false, false, false, false] rfl rfl (by kernel_rfl) (fun _ _ _ h => h) (Or.inl ⟨by rfl, ?_⟩) hHeld ?_ ?_
  rotate_left
  · intro w' s0
    go_simp
    try with_reducible rfl
  rotate_left
  · simp only [Act.put, List.setIfInBounds_toArray, List.set_cons_zero, List.set_cons_succ]
    rfl
  refine one_ (i := 5) (N := some 12) #[true, true, true, true, true, true, false, false, false, false, false, false, false, false, false, false, false, false, false] rfl rfl (by kernel_rfl) (by decide) (fun K hK => ?_)
  refine call_ 19 #[.agg #[.slice (some a3) 1 c3], .int .i64 2] (by rfl) rfl (by go_simp) ?_
  refine (lattice_Set_Has.calls (some a3) c3 [14] 2 true v1 hC4.out hc4.out (by kernel_rfl)).mono ?_
  rintro e v2 ⟨rfl, hb⟩
  refine ⟨_, rfl, ?_⟩
  replace hU := Aside0.mk (blk_below hU.out hb)
  replace hB4 := Aside0.mk (below_step hB4.out hb)
  replace hC4 := Aside0.mk (Kd.C_below hC4.out hb)
  clear hb
  refine hK.out _ _ ((blk_cell hU.out 0).trans rfl) (fun hHeld => ?_)
  clear hK K
  refine norm_ (a' := ?_) ?_ ?_
  rotate_left
  · simp only [Act.put, List.setIfInBounds_toArray, List.set_cons_zero, List.set_cons_succ]
    rfl
  refine pure_ (i := 6) (N := some 13) (v := ?_) (a' := ?_) #[true, true, true, true, true, true, true, false, false, false, false, false, false, false, false, false, false, false, false] rfl rfl (by kernel_rfl) (fun _ _ _ h => h) (Or.inl ⟨by rfl, ?_⟩) ?_ ?_
  rotate_left
  · intro w'
    go_simp
    try with_reducible rfl
  rotate_left
  · simp only [Act.put, List.setIfInBounds_toArray, List.set_cons_zero, List.set_cons_succ]
    rfl
  refine pure_ (i := 7) (N := some 14) (v := ?_) (a' := ?_) #[true, true, true, true, true, true, true, true, false, false, false, false, false, false, false, false, false, false, false] rfl rfl (by kernel_rfl) (fun _ _ _ h => h) (Or.inl ⟨by rfl, ?_⟩) ?_ ?_
  rotate_left
  · intro w'
    go_simp
    try with_reducible rfl
  rotate_left
  · simp only [Act.put, List.setIfInBounds_toArray, List.set_cons_zero, List.set_cons_succ]
    rfl
  refine take_ (i := 8) (N := some 15) (v := ?_) (a' := ?_) #[true, true, true, true, true, true, true, true, true, false, false, false, false, false, false, false, false, false, false] rfl rfl (by kernel_rfl) (fun _ _ _ h => h) (Or.inl ⟨by rfl, ?_⟩) hHeld ?_ ?_
  rotate_left
  · intro w' s0
    go_simp
    try with_reducible rfl
  rotate_left
  · simp only [Act.put, List.setIfInBounds_toArray, List.set_cons_zero, List.set_cons_succ]
    rfl
  refine one_ (i := 9) (N := some 16) #[true, true, true, true, true, true, true, true, true, true, false, false, false, false, false, false, false, false, false] rfl rfl (by kernel_rfl) (by decide) (fun K hK => ?_)
  refine call_ 19 #[.agg #[.slice (some a3) 1 c3], .int .i64 4] (by rfl) rfl (by go_simp) ?_
  refine (lattice_Set_Has.calls (some a3) c3 [14] 4 false v2 hC4.out hc4.out (by kernel_rfl)).mono ?_
  rintro e v3 ⟨rfl, hb⟩
  refine ⟨_, rfl, ?_⟩
  replace hU := Aside0.mk (blk_below hU.out hb)
  replace hB4 := Aside0.mk (below_step hB4.out hb)
  replace hC4 := Aside0.mk (Kd.C_below hC4.out hb)
  clear hb
  refine hK.out _ _ ((blk_cell hU.out 0).trans rfl) (fun hHeld => ?_)
  clear hK K
  refine norm_ (a' := ?_) ?_ ?_
  rotate_left
  · simp only [Act.put, List.setIfInBounds_toArray, List.set_cons_zero, List.set_cons_succ]
    rfl
  refine pure_ (i := 10) (N := some 17) (v := ?_) (a' := ?_) #[true, true, true, true, true, true, true, true, true, true, true, false, false, false, false, false, false, false, false] rfl rfl (by kernel_rfl) (fun _ _ _ h => h) (Or.inl ⟨by rfl, ?_⟩) ?_ ?_
  rotate_left
  · intro w'
    go_simp
    try with_reducible rfl
  rotate_left
  · simp only [Act.put, List.setIfInBounds_toArray, List.set_cons_zero, List.set_cons_succ]
    rfl
  refine pure_ (i := 11) (N := some 18) (v := ?_) (a' := ?_) #[true, true, true, true, true, true, true, true, true, true, true, true, false, false, false, false, false, false, false] rfl rfl (by kernel_rfl) (fun _ _ _ h => h) (Or.inl ⟨by rfl, ?_⟩) ?_ ?_
  rotate_left
  · intro w'
    go_simp
    try with_reducible rfl
  rotate_left
  · simp only [Act.put, List.setIfInBounds_toArray, List.set_cons_zero, List.set_cons_succ]
    rfl
  refine pure_ (i := 12) (N := some 19) (v := ?_) (a' := ?_) #[true, true, true, true, true, true, true, true, true, true, true, true, true, false, false, false, false, false, false] rfl rfl (by kernel_rfl) (fun _ _ _ h => h) (Or.inl ⟨by rfl, ?_⟩) ?_ ?_
  rotate_left
  · intro w'
    go_simp
    try with_reducible rfl
  rotate_left
  · simp only [Act.put, List.setIfInBounds_toArray, List.set_cons_zero, List.set_cons_succ]
    rfl
  refine take_ (i := 13) (N := some 20) (v := ?_) (a' := ?_) #[true, true, true, true, true, true, true, true, true, true, true, true, true, true, false, false, false, false, false] rfl rfl (by kernel_rfl) (fun _ _ _ h => h) (Or.inl ⟨by rfl, ?_⟩) hHeld ?_ ?_
  rotate_left
  · intro w' s0
    go_simp
    try with_reducible rfl
  rotate_left
  · simp only [Act.put, List.setIfInBounds_toArray, List.set_cons_zero, List.set_cons_succ]
    rfl
  refine one_ (i := 14) (N := some 21) #[true, true, true, true, true, true, true, true, true, true, true, true, true, true, true, false, false, false, false] rfl rfl (by kernel_rfl) (by decide) (fun K hK => ?_)
  refine Kd.R_lit_step (Kd.int .i64) (w0 := w) w.heap.size 3 (by rfl) (N := 21) rfl (xs := [1, 2, 3]) (inner := [.int .i64 1, .int .i64 2, .int .i64 3]) (ok := fun _ => True) (okp := fun _ => True) (by go_simp) (Kd.reps_scalar (enc := Value.int .i64) [1, 2, 3]) (fun _ h => h) trivial hB4.out hB4.out.size (by simp) ?_
  intro z1 v4 ho hb hg hat
  replace hU := Aside0.mk (blk_grown hU.out hg (by simp))
  replace hB4 := Aside0.mk hb
  replace hC4 := Aside0.mk (Kd.C_below hC4.out (grown_below hg))
  obtain ⟨Az, cz, rfl⟩ := Kd.R_slice ho
  have hZ := Kd.R_reads' ho
  clear ho hb hg hat
  change K (Act.put _ (some 21) _) _
  refine hK.out _ _ ((blk_cell hU.out 0).trans rfl) (fun hHeld => ?_)
  clear hK K
  refine norm_ (a' := ?_) ?_ ?_
  rotate_left
  · simp only [Act.put, List.setIfInBounds_toArray, List.set_cons_zero, List.set_cons_succ]
    rfl
  refine one_ (i := 15) (N := some 22) #[true, true, true, true, true, true, true, true, true, true, true, true, true, true, true, true, false, false, false] rfl rfl (by kernel_rfl) (by decide) (fun K hK => ?_)
  refine call_ 16 #[.slice Az 3 cz] (by rfl) rfl (by go_simp) ?_
  refine (lattice_NewSet.calls 20 Az cz [1, 2, 3] [14] v4 hZ.2.2 hZ.2.1 (by kernel_rfl)).mono ?_
  rintro e v5 ⟨z2, rfl, ho, hb⟩
  refine ⟨_, rfl, ?_⟩
  replace hU := Aside0.mk (blk_below hU.out hb)
  replace hB4 := Aside0.mk (below_step hB4.out hb)
  replace hC4 := Aside0.mk (Kd.C_below hC4.out hb)
  obtain ⟨Ay, cy, rfl⟩ := Kd.R_slice ho
  have hY := Kd.R_reads' ho
  clear ho hb hZ
  refine hK.out _ _ ((blk_cell hU.out 0).trans rfl) (fun hHeld => ?_)
  clear hK K
  refine norm_ (a' := ?_) ?_ ?_
  rotate_left
  · simp only [Act.put, List.setIfInBounds_toArray, List.set_cons_zero, List.set_cons_succ]
    rfl
  refine one_ (i := 16) (N := some 23) #[true, true, true, true, true, true, true, true, true, true, true, true, true, true, true, true, true, false, false] rfl rfl (by kernel_rfl) (by decide) (fun K hK => ?_)
  refine call_ 20 #[.agg #[.slice (some a3) 1 c3], .agg #[.slice Ay 1 cy]] (by rfl) rfl (by go_simp) ?_
  refine (lattice_Set_Equal.calls 20 (some a3) c3 [14] Ay cy [14] true v5 hC4.out hc4.out hY.2.2 hY.2.1 (by kernel_rfl)).mono ?_
  rintro e v6 ⟨rfl, hb⟩
  refine ⟨_, rfl, ?_⟩
  replace hU := Aside0.mk (blk_below hU.out hb)
  replace hB4 := Aside0.mk (below_step hB4.out hb)
  replace hC4 := Aside0.mk (Kd.C_below hC4.out hb)
  clear hb
  refine hK.out _ _ ((blk_cell hU.out 0).trans rfl) (fun hHeld => ?_)
  clear hK K
  refine norm_ (a' := ?_) ?_ ?_
  rotate_left
  · simp only [Act.put, List.setIfInBounds_toArray, List.set_cons_zero, List.set_cons_succ]
    rfl
  refine pure_ (i := 17) (N := some 24) (v := ?_) (a' := ?_) #[true, true, true, true, true, true, true, true, true, true, true, true, true, true, true, true, true, true, false] rfl rfl (by kernel_rfl) (fun _ _ _ h => h) (Or.inl ⟨by rfl, ?_⟩) ?_ ?_
  rotate_left
  · intro w'
    go_simp
    try with_reducible rfl
  rotate_left
  · simp only [Act.put, List.setIfInBounds_toArray, List.set_cons_zero, List.set_cons_succ]
    rfl
  refine pure_ (i := 18) (N := some 0) (v := ?_) (a' := ?_) #[true, true, true, true, true, true, true, true, true, true, true, true, true, true, true, true, true, true, true] rfl rfl (by kernel_rfl) (fun _ _ _ h => h) (Or.inl ⟨by rfl, ?_⟩) ?_ ?_
  rotate_left
  · intro w'
    go_simp
    try with_reducible rfl
  rotate_left
  · simp only [Act.put, List.setIfInBounds_toArray, List.set_cons_zero, List.set_cons_succ]
    rfl
  refine done_ (by kernel_rfl) ?_
  go_wp2_with fail
  go_ret
  exact ⟨rfl, hB4.out⟩
end Go.Proofs.Ytfdhpogpeajifaa.Lat
