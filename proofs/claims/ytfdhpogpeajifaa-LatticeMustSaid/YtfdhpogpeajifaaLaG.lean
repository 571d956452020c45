/- The problem of nodes and edges. -/
import Derived.Test.YtfdhpogpeajifaaLaF
import Derived.Laws.EntriesVeiled
namespace Go.Proofs.Ytfdhpogpeajifaa.Lat
open Go.RowKit Go.Proofs.YtfdhpogpeajifaaW.PrintWords Go.Proofs.YtfdhpogpeajifaaW.PrintLast Go.Proofs.YtfdhpogpeajifaaW.PrintMore
set_option linter.unusedVariables false
set_option linter.unusedSimpArgs false
theorem info44 : (Try.prog.info? 44).map (fun i => (i.zero, i.size, i.bytes)) = some (some (.agg #[.int .i64 0, .int .i64 0]), 2, 16) := by kernel_rfl
abbrev zb : Obj := .cells #[.int .i64 0, .slice none 0 0, .int .u64 0, .nilFunc, .nilFunc, .nilFunc, .nilFunc] 35 (0, 0)
/-- A problem is told: its edges are its own. -/
def RetP (l : List Nd) (es : List (Int × Int)) (w : World) (e : Ending) (w' : World) : Prop :=
  ∃ A c b, e = .returned (pv l.length A es.length c 0 (fv 24 #[PP b]) (fv 25 #[]) (fv 26 #[]) (fv 27 #[PP b])) ∧ kE.C w' A es.length es ∧ Cap w' b l ∧ Below w.heap.size w w'
set_option maxHeartbeats 8000000 in
set_option maxRecDepth 100000 in
theorem problem_ {w : World} (A : Option Addr) (l : List Nd) (c : Nat) (hN : Aside0 (kN.C w A l.length l)) (A1 : Option Addr) (es : List (Int × Int)) (c1 : Nat) (hE : Aside0 (kE.C w A1 es.length es)) (hes : es.length ≤ 1000000) :
    Calls Try.prog 10 #[.slice A l.length c, .slice A1 es.length c1] w (RetP l es w) := by
  have hmf : ∀ (fn : Fn) (first cap : Array Value) (w : World), (Instr.makeFunc fn first cap).run Try.prog w = .ok (.func fn first cap) w := fun _ _ _ _ => rfl
  have hX : Aside0 (((w.alloc (.cells #[.slice A l.length c] 22 (0, 0))).alloc zb).heap[w.heap.size]? = some (.cells #[.slice A l.length c] 22 (0, 0))) := ⟨blk_alloc (blk_new w _) _⟩
  have hY : Aside0 (((w.alloc (.cells #[.slice A l.length c] 22 (0, 0))).alloc zb).heap[w.heap.size + 1]? = some zb) := ⟨by have := blk_new (w.alloc (.cells #[.slice A l.length c] 22 (0, 0))) zb; simpa using this⟩
  have hB : Aside0 (Below w.heap.size w ((w.alloc (.cells #[.slice A l.length c] 22 (0, 0))).alloc zb)) := ⟨below_alloc (below_alloc (Below.refl _ _) _) _⟩
  have hc0 : ((w.alloc (.cells #[.slice A l.length c] 22 (0, 0))).alloc zb).cell? ⟨w.heap.size, 0, none⟩ = some (.slice A l.length c) := (blk_cell hX.out 0).trans rfl
  go_enter Try.func10, Try.ntmps10
  go_upto_region 1 with (fail)
  generalize (w.alloc (.cells #[.slice A l.length c] 22 (0, 0))).alloc zb = W at *
  refine start_ (n := 9) (S := fun w' => w'.cell? ⟨w.heap.size, 0, none⟩ = some (.slice A l.length c)) (ds := [8]) #[false, false, false, false, false, false, false, false, false] (by kernel_rfl) rfl rfl (hc0) (fun hHeld => ?_)
  replace hX : Aside0 (W.drew.heap[w.heap.size]? = _) := ⟨hX.out⟩
  replace hY : Aside0 (W.drew.heap[w.heap.size + 1]? = _) := ⟨hY.out⟩
  replace hB : Aside0 (Below w.heap.size w W.drew) := ⟨below_drew hB.out⟩
  clear hc0
  generalize W.drew = W2 at *
  refine take_ (i := 0) (N := some 5) (v := ?_) (a' := ?_) #[true, false, false, false, false, false, false, false, false] rfl rfl (by kernel_rfl) (fun _ _ _ h => h) (Or.inl ⟨by rfl, ?_⟩) hHeld ?_ ?_
  rotate_left
  · intro w' s0
    go_simp
    try with_reducible rfl
  rotate_left
  · simp only [Act.put, List.setIfInBounds_toArray, List.set_cons_zero, List.set_cons_succ]
    rfl
  refine pure_ (i := 1) (N := some 6) (v := ?_) (a' := ?_) #[true, true, false, false, false, false, false, false, false] rfl rfl (by kernel_rfl) (fun _ _ _ h => h) (Or.inl ⟨by rfl, ?_⟩) ?_ ?_
  rotate_left
  · intro w'
    go_simp
    try with_reducible rfl
  rotate_left
  · simp only [Act.put, List.setIfInBounds_toArray, List.set_cons_zero, List.set_cons_succ]
    rfl
  refine pure_ (i := 3) (N := some 8) (v := ?_) (a' := ?_) #[true, true, false, true, false, false, false, false, false] rfl rfl (by kernel_rfl) (fun _ _ _ h => h) (Or.inl ⟨by rfl, ?_⟩) ?_ ?_
  rotate_left
  · intro w'
    go_simp
    try with_reducible rfl
  rotate_left
  · simp only [Act.put, List.setIfInBounds_toArray, List.set_cons_zero, List.set_cons_succ]
    rfl
  refine pure_ (i := 5) (N := some 10) (v := ?_) (a' := ?_) #[true, true, false, true, false, true, false, false, false] rfl rfl (by kernel_rfl) (fun _ _ _ h => h) (Or.inl ⟨by rfl, ?_⟩) ?_ ?_
  rotate_left
  · intro w'
    go_simp
    try with_reducible rfl
  rotate_left
  · simp only [Act.put, List.setIfInBounds_toArray, List.set_cons_zero, List.set_cons_succ]
    rfl
  refine pure_ (i := 6) (N := some 11) (v := ?_) (a' := ?_) #[true, true, false, true, false, true, true, false, false] rfl rfl (by kernel_rfl) (fun _ _ _ h => h) (Or.inl ⟨by rfl, ?_⟩) ?_ ?_
  rotate_left
  · intro w'
    go_simp
    try with_reducible rfl
  rotate_left
  · simp only [Act.put, List.setIfInBounds_toArray, List.set_cons_zero, List.set_cons_succ]
    rfl
  refine one_ (i := 2) (N := some 7) #[true, true, true, true, false, true, true, false, false] rfl rfl (by kernel_rfl) (by decide) (fun K hK => ?_)
  refine Kd.R_lit_step kE (w0 := w) w.heap.size 44 (by rfl) (N := 7) rfl (xs := []) (inner := []) (ok := fun _ => True) (okp := fun _ => True) (by go_simp) ⟨rfl, fun j p h => by simp at h⟩ (fun _ h => h) trivial hB.out hB.out.size (by simp) ?_
  intro v1 w1 ho hb hg hat
  have hX1 := Aside0.mk (blk_grown hX.out hg (by simp))
  have hY1 := Aside0.mk (blk_grown hY.out hg (by simp))
  have hB1 := Aside0.mk hb
  have hE1 := Aside0.mk (Kd.C_below hE.out hb)
  replace ho := Aside0.mk ho
  clear hB hX hY hb hg hat
  change K (Act.put _ (some 7) v1) _
  refine hK.out _ _ ((blk_cell hX1.out 0).trans rfl) (fun hHeld => ?_)
  clear hK K
  refine norm_ (a' := ?_) ?_ ?_
  rotate_left
  · simp only [Act.put, List.setIfInBounds_toArray, List.set_cons_zero, List.set_cons_succ]
    rfl
  refine one_ (i := 4) (N := some 9) #[true, true, true, true, true, true, true, false, false] rfl rfl (by kernel_rfl) (by decide) (fun K hK => ?_)
  refine Kd.R_append_rows_step kE (Rr := kE.K w1) (w0 := w) w.heap.size (by rfl) (.tmp 7) (.tmp 8) 23 44 (.agg #[.int .i64 0, .int .i64 0]) 16 rfl Try.underlying23 info44 rfl (by decide) (by omega) v1 [] es A1 es.length c1 (fun _ => True) (fun _ => False) rfl rfl ho.out hE1.out (fun _ _ h => h) (fun _ h => h.elim) (fun _ _ => trivial) hB1.out hB1.out.size (by simp; omega) ?_
  intro v2 w2 ho2 hb hg hat
  have hX2 := Aside0.mk (blk_grown hX1.out hg (Kd.R_ne ho.out hX1.out (by decide)))
  have hY2 := Aside0.mk (blk_grown hY1.out hg (Kd.R_ne ho.out hY1.out (by decide)))
  have hB2 := Aside0.mk hb
  replace ho2 := Aside0.mk ho2
  clear hB1 hX1 hY1 hb hg hat ho hE1
  change K (Act.put _ (some 9) v2) _
  refine hK.out _ _ ((blk_cell hX2.out 0).trans rfl) (fun hHeld => ?_)
  clear hK K
  refine norm_ (a' := ?_) ?_ ?_
  rotate_left
  · simp only [Act.put, List.setIfInBounds_toArray, List.set_cons_zero, List.set_cons_succ]
    rfl
  obtain ⟨A2, c2, rfl⟩ := Kd.R_slice ho2.out
  simp only [List.nil_append] at ho2 ⊢
  refine pure_ (i := 7) (N := some 12) (v := ?_) (a' := ?_) #[true, true, true, true, true, true, true, true, false] rfl rfl (by kernel_rfl) (fun _ _ _ h => h) (Or.inl ⟨by rfl, ?_⟩) ?_ ?_
  rotate_left
  · intro w'
    go_simp
    try with_reducible rfl
  rotate_left
  · simp only [Act.put, List.setIfInBounds_toArray, List.set_cons_zero, List.set_cons_succ]
    rfl
  refine last_ (i := 8) (N := none) #[true, true, true, true, true, true, true, true, true] rfl rfl (by kernel_rfl) (by decide) (fun K hK => ?_)
  have y0 := (blk_cell hY2.out 0).trans (show _ = some (.int .i64 0) from rfl)
  have y1 := (blk_cell hY2.out 1).trans (show _ = some (.slice none 0 0) from rfl)
  have y2 := (blk_cell hY2.out 2).trans (show _ = some (.int .u64 0) from rfl)
  have y3 := (blk_cell hY2.out 3).trans (show _ = some (.nilFunc) from rfl)
  have y4 := (blk_cell hY2.out 4).trans (show _ = some (.nilFunc) from rfl)
  have y5 := (blk_cell hY2.out 5).trans (show _ = some (.nilFunc) from rfl)
  have y6 := (blk_cell hY2.out 6).trans (show _ = some (.nilFunc) from rfl)
  have f0 := blk_frozen hY2.out 0
  have f1 := blk_frozen hY2.out 1
  have f2 := blk_frozen hY2.out 2
  have f3 := blk_frozen hY2.out 3
  have f4 := blk_frozen hY2.out 4
  have f5 := blk_frozen hY2.out 5
  have f6 := blk_frozen hY2.out 6
  refine skip_ (w1 := ?_) (by rfl) rfl ?_ ?_
  rotate_left
  · go_simp
    rfl
  refine hK.out _ _ ?_
  clear hK K
  refine done_ (by kernel_rfl) ?_
  go_wp2
  have hR := Kd.R_types ho2.out hY2.out (by decide)
  have hBf : Below w.heap.size w _ := below_set (g := w.heap.size + 1) (j := 6) (v := fv 27 #[PP w.heap.size]) (below_set (g := w.heap.size + 1) (j := 5) (v := fv 26 #[]) (below_set (g := w.heap.size + 1) (j := 4) (v := fv 25 #[]) (below_set (g := w.heap.size + 1) (j := 3) (v := fv 24 #[PP w.heap.size]) (below_set (g := w.heap.size + 1) (j := 2) (v := .int .u64 0) (below_set (g := w.heap.size + 1) (j := 1) (v := .slice A2 es.length c2) (below_set (g := w.heap.size + 1) (j := 0) (v := .int .i64 (l.length : Int)) (hB2.out) (Nat.le_add_right _ _)) (Nat.le_add_right _ _)) (Nat.le_add_right _ _)) (Nat.le_add_right _ _)) (Nat.le_add_right _ _)) (Nat.le_add_right _ _)) (Nat.le_add_right _ _)
  have hcv := Aside0.mk (Kd.R_reads' (Kd.R_far (p := ⟨w.heap.size + 1, 6, none⟩) (Kd.R_far (p := ⟨w.heap.size + 1, 5, none⟩) (Kd.R_far (p := ⟨w.heap.size + 1, 4, none⟩) (Kd.R_far (p := ⟨w.heap.size + 1, 3, none⟩) (Kd.R_far (p := ⟨w.heap.size + 1, 2, none⟩) (Kd.R_far (p := ⟨w.heap.size + 1, 1, none⟩) (Kd.R_far (p := ⟨w.heap.size + 1, 0, none⟩) (hR) (fun _ hk => hk.2) (.int .i64 (l.length : Int))) (fun _ hk => hk.2) (.slice A2 es.length c2)) (fun _ hk => hk.2) (.int .u64 0)) (fun _ hk => hk.2) (fv 24 #[PP w.heap.size])) (fun _ hk => hk.2) (fv 25 #[])) (fun _ hk => hk.2) (fv 26 #[])) (fun _ hk => hk.2) (fv 27 #[PP w.heap.size]))).2.2
  refine bodyPost_ret (results_cell_row rfl _ _ (w.heap.size + 1) 35 #[.int .i64 (l.length : Int), .slice A2 es.length c2, .int .u64 0, fv 24 #[PP w.heap.size], fv 25 #[], fv 26 #[], fv 27 #[PP w.heap.size]] (0, 0) _ rfl (blk_put (blk_put (blk_put (blk_put (blk_put (blk_put (blk_put (hY2.out) 0 _ rfl) 1 _ rfl) 2 _ rfl) 3 _ rfl) 4 _ rfl) 5 _ rfl) 6 _ rfl) Try.underlying35 rfl (by kernel_rfl)) rfl ⟨A2, c2, w.heap.size, rfl, hcv.out, ⟨A, c, blk_far (blk_far (blk_far (blk_far (blk_far (blk_far (blk_far (hX2.out) (by simp) _) (by simp) _) (by simp) _) (by simp) _) (by simp) _) (by simp) _) (by simp) _, Kd.C_below hN.out hBf⟩, hBf⟩
end Go.Proofs.Ytfdhpogpeajifaa.Lat
