/- The solver's two tables while they are filled. -/
import Derived.Test.YtfdhpogpeajifaaLaH
namespace Go.Proofs.Ytfdhpogpeajifaa.Lat
open Go.RowKit Go.Proofs.YtfdhpogpeajifaaW.PrintWords Go.Proofs.YtfdhpogpeajifaaW.PrintLast Go.Proofs.YtfdhpogpeajifaaW.PrintMore
set_option linter.unusedVariables false
set_option linter.unusedSimpArgs false
structure Tb (w wr : World) (gF gT N : Nat) (F T : List (List Int)) (po : Obj) : Prop where
  m : ∃ VF VT : List Value, VF.length = N ∧ VT.length = N ∧ wr.heap[gF]? = some (.cells VF.toArray 55 (0, 0)) ∧ wr.heap[gT]? = some (.cells VT.toArray 55 (0, 0)) ∧ Rws wr w.heap.size (VF ++ VT) (F ++ T)
  hF : w.heap.size ≤ gF
  hT : w.heap.size ≤ gT
  ne : gF ≠ gT
  lF : F.length = N
  lT : T.length = N
  bel : Below w.heap.size w wr
  pb : wr.heap[w.heap.size]? = some po
theorem Tb.below {w wr w1 : World} {gF gT N : Nat} {F T : List (List Int)} {po : Obj} (h : Tb w wr gF gT N F T po) (b : Below wr.heap.size wr w1) : Tb w w1 gF gT N F T po := by
  obtain ⟨VF, VT, h1, h2, h3, h4, h5⟩ := h.m
  exact ⟨⟨VF, VT, h1, h2, (b.block _ (blk_lt h3)).trans h3, (b.block _ (blk_lt h4)).trans h4, h5.below b⟩, h.hF, h.hT, h.ne, h.lF, h.lT, below_step h.bel b, (b.block _ (blk_lt h.pb)).trans h.pb⟩
theorem rows_nil (N : Nat) : rowsF [] N = List.replicate N [] ∧ rowsT [] N = List.replicate N [] := by
  constructor
  · refine ext_lat (by simp [rowsF_len]) fun n hn => ?_
    rw [rowsF_len] at hn
    rw [rowsF_at _ hn]
    exact (getD_rep N n [] [] hn).symm
  · refine ext_lat (by simp [rowsT_len]) fun n hn => ?_
    rw [rowsT_len] at hn
    rw [rowsT_at _ hn]
    exact (getD_rep N n [] [] hn).symm
abbrev nilo (N : Nat) : Obj := .cells (nilA N) 55
theorem Tb.begin {w W : World} {N : Nat} {po : Obj} (hb : Below w.heap.size w W) (hp : W.heap[w.heap.size]? = some po) : Tb w ((W.alloc (nilo N)).alloc (nilo N)) W.heap.size (W.heap.size + 1) N (rowsF [] N) (rowsT [] N) po := by
  have h1 := blk_new W (nilo N)
  have h2 := blk_new (W.alloc (nilo N)) (nilo N)
  rw [show (W.alloc (nilo N)).heap.size = W.heap.size + 1 by simp] at h2
  rw [(rows_nil N).1, (rows_nil N).2]
  have h3 := hb.size
  refine ⟨⟨_, _, by simp, by simp, blk_alloc h1 _, h2, ?_⟩, hb.size, by omega, by omega, by simp, by simp, below_alloc (below_alloc hb _) _, blk_alloc (blk_alloc hp _) _⟩
  have := Rws.nils ((W.alloc (nilo N)).alloc (nilo N)) w.heap.size (N + N)
  rwa [← List.replicate_append_replicate, ← List.replicate_append_replicate] at this
theorem Tb.swap {w W : World} {N gF gT : Nat} {po : Obj} (h : Tb w W gF gT N (rowsF [] N) (rowsT [] N) po) : Tb w W gT gF N (rowsF [] N) (rowsT [] N) po := by
  obtain ⟨VF, VT, h1, h2, h3, h4, h5⟩ := h.m
  rw [(rows_nil N).1, (rows_nil N).2] at *
  refine ⟨⟨VT, VF, h2, h1, h4, h3, ?_⟩, h.hT, h.hF, h.ne.symm, by simp, by simp, h.bel, h.pb⟩
  have hr : ∀ i, i < N → vat (VF ++ VT) i = vat VF i := fun i hi => vat_left _ _ (by omega)
  have hs : ∀ i, vat (VF ++ VT) (N + i) = vat VT i := fun i => by have := vat_right VF VT i; rwa [h1] at this
  have hr' : ∀ i, i < N → vat (VT ++ VF) i = vat VT i := fun i hi => vat_left _ _ (by omega)
  have hs' : ∀ i, vat (VT ++ VF) (N + i) = vat VF i := fun i => by have := vat_right VT VF i; rwa [h2] at this
  have hl : ∀ i, lat (List.replicate N ([] : List Int) ++ List.replicate N []) i = [] := fun i => by
    rw [List.replicate_append_replicate]
    unfold lat
    by_cases hi : i < N + N
    · exact getD_rep _ _ _ _ hi
    · exact getD_over _ _ _ (by simp; omega)
  have hlen : (List.replicate N ([] : List Int) ++ List.replicate N []).length = N + N := by simp
  have fl : ∀ i, i < N + N → ∃ j, j < N + N ∧ vat (VT ++ VF) i = vat (VF ++ VT) j ∧ (i < N → j = N + i) ∧ (N ≤ i → j + N = i) := by
    intro i hi
    by_cases hlt : i < N
    · exact ⟨N + i, by omega, by rw [hr' i hlt, hs], fun _ => rfl, fun h => by omega⟩
    · obtain ⟨q, rfl⟩ : ∃ q, i = N + q := ⟨i - N, by omega⟩
      exact ⟨q, by omega, by rw [hs', hr q (by omega)], fun h => by omega, fun _ => by omega⟩
  refine ⟨by simp [h1, h2], fun i hi => ?_, fun i j k hi hj hne e1 e2 => ?_⟩
  · rw [hlen] at hi
    obtain ⟨j, hj, e, _⟩ := fl i hi
    rw [e, hl]
    have := h5.row j (by rw [hlen]; exact hj)
    rwa [hl] at this
  · rw [hlen] at hi hj
    obtain ⟨i', hi', e, p1, p2⟩ := fl i hi
    obtain ⟨j', hj', e', p3, p4⟩ := fl j hj
    rw [e] at e1
    rw [e'] at e2
    refine h5.ap i' j' k (by rw [hlen]; exact hi') (by rw [hlen]; exact hj') (fun z => ?_) e1 e2
    by_cases q1 : i < N
    · by_cases q2 : j < N
      · have := p1 q1; have := p3 q2; omega
      · have := p1 q1; have := p4 (by omega); omega
    · by_cases q2 : j < N
      · have := p2 (by omega); have := p3 q2; omega
      · have := p2 (by omega); have := p4 (by omega); omega
theorem eOk_at {n : Nat} {es : List (Int × Int)} {k : Nat} (h : allOk n es = true) (hk : k < es.length) : 0 ≤ (es.getD k (0, 0)).1 ∧ (es.getD k (0, 0)).1 < n ∧ 0 ≤ (es.getD k (0, 0)).2 ∧ (es.getD k (0, 0)).2 < n := by
  unfold allOk at h
  rw [List.all_eq_true] at h
  have := h es[k] (List.getElem_mem hk)
  rw [List.getD_eq_getElem?_getD, List.getElem?_eq_getElem hk]
  unfold eOk at this
  simp at this
  show 0 ≤ es[k].1 ∧ es[k].1 < n ∧ 0 ≤ es[k].2 ∧ es[k].2 < n
  omega
theorem nE_len (es : List (Int × Int)) (k : Nat) (hk : k ≤ es.length) : (nE (es.take k)).length = k := by simp [nE]; omega
/-- Two tables of N rows; a row of each. -/
structure Tw (VF VT : List Value) (F T : List (List Int)) (N a b : Nat) : Prop where
  lVF : VF.length = N
  lVT : VT.length = N
  lF : F.length = N
  lT : T.length = N
  ha : a < N
  hb : b < N
theorem Tw.mk' {VF VT : List Value} {F T : List (List Int)} {N a b : Nat} (h1 : VF.length = N) (h2 : VT.length = N) (h3 : F.length = N) (h4 : T.length = N) (h5 : a < N) (h6 : b < N) : Tw VF VT F T N a b := ⟨h1, h2, h3, h4, h5, h6⟩
section
variable {VF VT : List Value} {F T : List (List Int)} {N a b : Nat} {W W1 : World} {base : Nat} {z z' v1 : Value} {x y : List Int}
theorem Tw.vF (h : Tw VF VT F T N a b) : vat (VF ++ VT) b = vat VF b := vat_left _ _ (by rw [h.lVF]; exact h.hb)
theorem Tw.rF (h : Tw VF VT F T N a b) : lat (F ++ T) b = lat F b := lat_left _ _ (by rw [h.lF]; exact h.hb)
theorem Tw.vT (h : Tw VF VT F T N a b) : vat (VF ++ VT) (N + a) = vat VT a := by have := vat_right VF VT a; rwa [h.lVF] at this
theorem Tw.rT (h : Tw VF VT F T N a b) : lat (F ++ T) (N + a) = lat T a := by have := lat_right F T a; rwa [h.lF] at this
theorem Tw.lv (h : Tw VF VT F T N a b) : (VF ++ VT).length = N + N := by rw [List.length_append, h.lVF, h.lVT]
theorem Tw.ll (h : Tw VF VT F T N a b) : (F ++ T).length = N + N := by rw [List.length_append, h.lF, h.lT]
theorem Tw.rowF (h : Tw VF VT F T N a b) (r : Rws W base (VF ++ VT) (F ++ T)) : RI W base (vat VF b) (lat F b) := by
  have := r.row b (by rw [h.ll]; have := h.hb; omega)
  rwa [h.vF, h.rF] at this
theorem Tw.rowT0 (h : Tw VF VT F T N a b) (r : Rws W base (VF ++ VT) (F ++ T)) : RI W base (vat VT a) (lat T a) := by
  have := r.row (N + a) (by rw [h.ll]; have := h.ha; omega)
  rwa [h.vT, h.rT] at this
theorem Tw.vT1 (h : Tw VF VT F T N a b) : vat ((VF ++ VT).set b z) (N + a) = vat VT a := by
  rw [vat_set _ _ _ _ (by rw [h.lv]; have := h.hb; omega), if_neg (by have := h.hb; omega), h.vT]
theorem Tw.rT1 (h : Tw VF VT F T N a b) : lat ((F ++ T).set b x) (N + a) = lat T a := by
  rw [lat_set _ _ _ _ (by rw [h.ll]; have := h.hb; omega), if_neg (by have := h.hb; omega), h.rT]
theorem Tw.rowT (h : Tw VF VT F T N a b) (r : Rws W base ((VF ++ VT).set b z) ((F ++ T).set b x)) : RI W base (vat VT a) (lat T a) := by
  have := r.row (N + a) (by rw [List.length_set, h.ll]; have := h.ha; omega)
  rwa [h.vT1, h.rT1] at this
theorem Tw.appF (h : Tw VF VT F T N a b) (r : Rws W base (VF ++ VT) (F ++ T)) (hg : W.grownBy W1 (vat VF b).ownBlock) (ho : RI W1 base v1 x) (hat : v1.ownBlock = (vat VF b).ownBlock ∨ ∃ c, v1.ownBlock = some c ∧ W.heap.size ≤ c) : Rws W1 base ((VF ++ VT).set b v1) ((F ++ T).set b x) := by
  rw [← h.vF] at hg hat
  exact r.app (by rw [h.ll]; have := h.hb; omega) hg ho hat
theorem Tw.appT (h : Tw VF VT F T N a b) (r : Rws W base ((VF ++ VT).set b z) ((F ++ T).set b x)) (hg : W.grownBy W1 (vat VT a).ownBlock) (ho : RI W1 base v1 y) (hat : v1.ownBlock = (vat VT a).ownBlock ∨ ∃ c, v1.ownBlock = some c ∧ W.heap.size ≤ c) : Rws W1 base (((VF ++ VT).set b z).set (N + a) v1) (((F ++ T).set b x).set (N + a) y) := by
  rw [← h.vT1 (z := z)] at hg hat
  exact r.app (by rw [List.length_set, h.ll]; have := h.ha; omega) hg ho hat
theorem Tw.slF (h : Tw VF VT F T N a b) (r : Rws W base (((VF ++ VT).set b z).set (N + a) z') (((F ++ T).set b x).set (N + a) y)) : ∃ A c, z = .slice A x.length c := by
  have := r.row b (by rw [List.length_set, List.length_set, h.ll]; have := h.hb; omega)
  rw [vat_set _ _ _ _ (by rw [List.length_set, h.lv]; have := h.ha; omega), if_neg (by have := h.hb; omega), vat_set _ _ _ _ (by rw [h.lv]; have := h.hb; omega), if_pos rfl,
    lat_set _ _ _ _ (by rw [List.length_set, h.ll]; have := h.ha; omega), if_neg (by have := h.hb; omega), lat_set _ _ _ _ (by rw [h.ll]; have := h.hb; omega), if_pos rfl] at this
  exact Kd.R_slice this
theorem Tw.slT (h : Tw VF VT F T N a b) (r : Rws W base (((VF ++ VT).set b z).set (N + a) z') (((F ++ T).set b x).set (N + a) y)) : ∃ A c, z' = .slice A y.length c := by
  have := r.row (N + a) (by rw [List.length_set, List.length_set, h.ll]; have := h.ha; omega)
  rw [vat_set _ _ _ _ (by rw [List.length_set, h.lv]; have := h.ha; omega), if_pos rfl, lat_set _ _ _ _ (by rw [List.length_set, h.ll]; have := h.ha; omega), if_pos rfl] at this
  exact Kd.R_slice this
theorem Tw.next {w : World} {gF gT : Nat} {po : Obj} (h : Tw VF VT F T N a b) (hF : W.heap[gF]? = some (.cells (VF.set b z).toArray 55 (0, 0))) (hT : W.heap[gT]? = some (.cells (VT.set a z').toArray 55 (0, 0)))
    (r : Rws W w.heap.size (((VF ++ VT).set b z).set (N + a) z') (((F ++ T).set b x).set (N + a) y)) (h1 : w.heap.size ≤ gF) (h2 : w.heap.size ≤ gT) (h3 : gF ≠ gT) (hB : Below w.heap.size w W) (hp : W.heap[w.heap.size]? = some po) : Tb w W gF gT N (F.set b x) (T.set a y) po := by
  have e1 : ((VF ++ VT).set b z).set (N + a) z' = VF.set b z ++ VT.set a z' := by
    rw [set_left _ _ _ (by rw [h.lVF]; exact h.hb)]
    have := set_right (VF.set b z) VT a z'
    rwa [List.length_set, h.lVF] at this
  have e2 : ((F ++ T).set b x).set (N + a) y = F.set b x ++ T.set a y := by
    rw [set_left _ _ _ (by rw [h.lF]; exact h.hb)]
    have := set_right (F.set b x) T a y
    rwa [List.length_set, h.lF] at this
  rw [e1, e2] at r
  exact ⟨⟨_, _, by simpa using h.lVF, by simpa using h.lVT, hF, hT, r⟩, h1, h2, h3, by simpa using h.lF, by simpa using h.lT, hB, hp⟩
end
end Go.Proofs.Ytfdhpogpeajifaa.Lat
