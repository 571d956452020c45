/- The solver's memory whole. -/
import Derived.Test.YtfdhpogpeajifaaLaI
namespace Go.Proofs.Ytfdhpogpeajifaa.Lat
open Go.RowKit Go.Proofs.YtfdhpogpeajifaaW.PrintWords Go.Proofs.YtfdhpogpeajifaaW.PrintLast Go.Proofs.YtfdhpogpeajifaaW.PrintMore
set_option linter.unusedVariables false
set_option linter.unusedSimpArgs false
/-- Two rows of sets, made anew. -/
structure Mk2 (w1 wx : World) (N gI gO : Nat) : Prop where
  a : wx.heap[gI]? = some (.cells (us (zeros N)) 29 (0, 0))
  b : wx.heap[gO]? = some (.cells (us (zeros N)) 29 (0, 0))
  ne : gI ≠ gO
  l1 : w1.heap.size ≤ gI
  l2 : w1.heap.size ≤ gO
  bel : Below w1.heap.size w1 wx
abbrev zero (N : Nat) : Obj := .cells (us (zeros N)) 29
theorem Mk2.mk' {w1 w2 : World} {N : Nat} (h : Below w1.heap.size w1 w2) : Mk2 w1 ((w2.alloc (zero N)).alloc (zero N)) N w2.heap.size (w2.heap.size + 1) := by
  have h2 := blk_new (w2.alloc (zero N)) (zero N)
  rw [show (w2.alloc (zero N)).heap.size = w2.heap.size + 1 by simp] at h2
  have := h.size
  exact ⟨blk_alloc (blk_new w2 (zero N)) _, h2, by omega, by omega, by omega, below_alloc (below_alloc h _) _⟩
theorem Mk2.swap {w1 wx : World} {N gI gO : Nat} (h : Mk2 w1 wx N gI gO) : Mk2 w1 wx N gO gI := ⟨h.b, h.a, h.ne.symm, h.l2, h.l1, h.bel⟩
/-- The places of the solver's blocks. -/
structure Gs where
  gF : Nat
  gT : Nat
  gS : Nat
  gI : Nat
  gO : Nat
  gW : Nat
structure Sv (w wr : World) (N : Nat) (g : Gs) (F T : List (List Int)) (po : Obj) (S I O : List V) (B : List Bool) (vr : Value) (row : List Int) : Prop where
  m : ∃ VF VT : List Value, VF.length = N ∧ VT.length = N ∧ wr.heap[g.gF]? = some (.cells VF.toArray 55 (0, 0)) ∧ wr.heap[g.gT]? = some (.cells VT.toArray 55 (0, 0)) ∧ Rws wr w.heap.size ((VF ++ VT) ++ [vr]) ((F ++ T) ++ [row])
  lF : F.length = N
  lT : T.length = N
  bS : wr.heap[g.gS]? = some (.cells (us S) 29 (0, 0))
  bI : wr.heap[g.gI]? = some (.cells (us I) 29 (0, 0))
  bO : wr.heap[g.gO]? = some (.cells (us O) 29 (0, 0))
  bW : wr.heap[g.gW]? = some (.cells (bs B) 4 (0, 0))
  nSI : g.gS ≠ g.gI
  nSO : g.gS ≠ g.gO
  nIO : g.gI ≠ g.gO
  hS : w.heap.size ≤ g.gS
  hI : w.heap.size ≤ g.gI
  hO : w.heap.size ≤ g.gO
  hW : w.heap.size ≤ g.gW
  lS : S.length = N
  lI : I.length = N
  lO : O.length = N
  lW : B.length = N
  bel : Below w.heap.size w wr
  pb : ∃ cs, po = .cells cs 35 (0, 0) ∧ wr.heap[w.heap.size]? = some po
section
variable {w wr w1 : World} {N : Nat} {g : Gs} {F T : List (List Int)} {po : Obj} {S I O : List V} {B : List Bool} {vr : Value} {row : List Int}
theorem Sv.below (h : Sv w wr N g F T po S I O B vr row) (b : Below wr.heap.size wr w1) : Sv w w1 N g F T po S I O B vr row := by
  obtain ⟨VF, VT, h1, h2, h3, h4, h5⟩ := h.m
  obtain ⟨cs, h6, h7⟩ := h.pb
  exact { h with
    m := ⟨VF, VT, h1, h2, (b.block _ (blk_lt h3)).trans h3, (b.block _ (blk_lt h4)).trans h4, h5.below b⟩
    bS := (b.block _ (blk_lt h.bS)).trans h.bS
    bI := (b.block _ (blk_lt h.bI)).trans h.bI
    bO := (b.block _ (blk_lt h.bO)).trans h.bO
    bW := (b.block _ (blk_lt h.bW)).trans h.bW
    bel := below_step h.bel b
    pb := ⟨cs, h6, (b.block _ (blk_lt h7)).trans h7⟩ }
theorem Sv.pr_ (h : Sv w wr N g F T po S I O B vr row) : wr.heap[w.heap.size]? = some po := by
  obtain ⟨cs, h6, h7⟩ := h.pb
  exact h7
theorem Sv.setS (h : Sv w wr N g F T po S I O B vr row) (n : Nat) (x : V) : Sv w (wr.setCell ⟨g.gS, n, none⟩ (uv x)) N g F T po (S.set n x) I O B vr row := by
  obtain ⟨VF, VT, h1, h2, h3, h4, h5⟩ := h.m
  obtain ⟨cs, h6, h7⟩ := h.pb
  subst h6
  exact { h with
    m := ⟨VF, VT, h1, h2, blk_far h3 (ne_ty h3 h.bS rfl) _, blk_far h4 (ne_ty h4 h.bS rfl) _, h5.set_ h.bS (by decide) _ _⟩
    bS := us_set h.bS n x
    bI := blk_far h.bI h.nSI.symm _
    bO := blk_far h.bO h.nSO.symm _
    bW := blk_far h.bW (ne_ty h.bW h.bS rfl) _
    lS := by rw [List.length_set]; exact h.lS
    bel := below_set h.bel h.hS
    pb := ⟨cs, rfl, blk_far h7 (ne_ty h7 h.bS rfl) _⟩ }
theorem Sv.setI (h : Sv w wr N g F T po S I O B vr row) (n : Nat) (x : V) : Sv w (wr.setCell ⟨g.gI, n, none⟩ (uv x)) N g F T po S (I.set n x) O B vr row := by
  obtain ⟨VF, VT, h1, h2, h3, h4, h5⟩ := h.m
  obtain ⟨cs, h6, h7⟩ := h.pb
  subst h6
  exact { h with
    m := ⟨VF, VT, h1, h2, blk_far h3 (ne_ty h3 h.bI rfl) _, blk_far h4 (ne_ty h4 h.bI rfl) _, h5.set_ h.bI (by decide) _ _⟩
    bS := blk_far h.bS h.nSI _
    bI := us_set h.bI n x
    bO := blk_far h.bO h.nIO.symm _
    bW := blk_far h.bW (ne_ty h.bW h.bI rfl) _
    lI := by rw [List.length_set]; exact h.lI
    bel := below_set h.bel h.hI
    pb := ⟨cs, rfl, blk_far h7 (ne_ty h7 h.bI rfl) _⟩ }
theorem Sv.setO (h : Sv w wr N g F T po S I O B vr row) (n : Nat) (x : V) : Sv w (wr.setCell ⟨g.gO, n, none⟩ (uv x)) N g F T po S I (O.set n x) B vr row := by
  obtain ⟨VF, VT, h1, h2, h3, h4, h5⟩ := h.m
  obtain ⟨cs, h6, h7⟩ := h.pb
  subst h6
  exact { h with
    m := ⟨VF, VT, h1, h2, blk_far h3 (ne_ty h3 h.bO rfl) _, blk_far h4 (ne_ty h4 h.bO rfl) _, h5.set_ h.bO (by decide) _ _⟩
    bS := blk_far h.bS h.nSO _
    bI := blk_far h.bI h.nIO _
    bO := us_set h.bO n x
    bW := blk_far h.bW (ne_ty h.bW h.bO rfl) _
    lO := by rw [List.length_set]; exact h.lO
    bel := below_set h.bel h.hO
    pb := ⟨cs, rfl, blk_far h7 (ne_ty h7 h.bO rfl) _⟩ }
theorem Sv.setW (h : Sv w wr N g F T po S I O B vr row) (n : Nat) (x : Bool) : Sv w (wr.setCell ⟨g.gW, n, none⟩ (.bool x)) N g F T po S I O (B.set n x) vr row := by
  obtain ⟨VF, VT, h1, h2, h3, h4, h5⟩ := h.m
  obtain ⟨cs, h6, h7⟩ := h.pb
  subst h6
  exact { h with
    m := ⟨VF, VT, h1, h2, blk_far h3 (ne_ty h3 h.bW rfl) _, blk_far h4 (ne_ty h4 h.bW rfl) _, h5.set_ h.bW (by decide) _ _⟩
    bS := blk_far h.bS (ne_ty h.bS h.bW rfl) _
    bI := blk_far h.bI (ne_ty h.bI h.bW rfl) _
    bO := blk_far h.bO (ne_ty h.bO h.bW rfl) _
    bW := bs_set h.bW n x
    lW := by rw [List.length_set]; exact h.lW
    bel := below_set h.bel h.hW
    pb := ⟨cs, rfl, blk_far h7 (ne_ty h7 h.bW rfl) _⟩ }
theorem Sv.rowR (h : Sv w wr N g F T po S I O B vr row) : RI wr w.heap.size vr row := by
  obtain ⟨VF, VT, h1, h2, h3, h4, h5⟩ := h.m
  have e1 : vat ((VF ++ VT) ++ [vr]) (VF ++ VT).length = vr := vat_right (VF ++ VT) [vr] 0
  have e2 : lat ((F ++ T) ++ [row]) (F ++ T).length = row := lat_right (F ++ T) [row] 0
  have := h5.row (F ++ T).length (by simp)
  rw [e2, show (F ++ T).length = (VF ++ VT).length by simp [h1, h2, h.lF, h.lT], e1] at this
  exact this
theorem Sv.push (h : Sv w wr N g F T po S I O B vr row) {v1 : Value} {x : List Int} (hg : wr.grownBy w1 vr.ownBlock) (ho : RI w1 w.heap.size v1 x) (hat : v1.ownBlock = vr.ownBlock ∨ ∃ b, v1.ownBlock = some b ∧ wr.heap.size ≤ b) (hb : Below w.heap.size w w1) : Sv w w1 N g F T po S I O B v1 x := by
  have hr := h.rowR
  obtain ⟨VF, VT, h1, h2, h3, h4, h5⟩ := h.m
  obtain ⟨cs, h6, h7⟩ := h.pb
  subst h6
  have e1 : vat ((VF ++ VT) ++ [vr]) (VF ++ VT).length = vr := vat_right (VF ++ VT) [vr] 0
  have el : (F ++ T).length = (VF ++ VT).length := by simp [h1, h2, h.lF, h.lT]
  have h8 := h5.app (p := (VF ++ VT).length) (by simp [h1, h2, h.lF, h.lT]) (x := x) (v1 := v1) (by rw [e1]; exact hg) ho (by rw [e1]; exact hat)
  have e3 : ((VF ++ VT) ++ [vr]).set (VF ++ VT).length v1 = (VF ++ VT) ++ [v1] := set_right (VF ++ VT) [vr] 0 v1
  have e4 : ((F ++ T) ++ [row]).set (VF ++ VT).length x = (F ++ T) ++ [x] := by rw [← el]; exact set_right (F ++ T) [row] 0 x
  rw [e3, e4] at h8
  exact { h with
    m := ⟨VF, VT, h1, h2, blk_grown h3 hg (Kd.R_ne hr h3 (by decide)), blk_grown h4 hg (Kd.R_ne hr h4 (by decide)), h8⟩
    bS := blk_grown h.bS hg (Kd.R_ne hr h.bS (by decide))
    bI := blk_grown h.bI hg (Kd.R_ne hr h.bI (by decide))
    bO := blk_grown h.bO hg (Kd.R_ne hr h.bO (by decide))
    bW := blk_grown h.bW hg (Kd.R_ne hr h.bW (by decide))
    bel := hb
    pb := ⟨cs, rfl, blk_grown h7 hg (Kd.R_ne hr h7 (by decide))⟩ }
/-- Row n of the first table: who comes ahead. -/
theorem Sv.rowF (h : Sv w wr N g F T po S I O B vr row) (n : Nat) (hn : n < N) : ∃ A c, wr.cell? ⟨g.gF, n, none⟩ = some (.slice A (lat F n).length c) ∧ (Kd.int .i64).C wr A (lat F n).length (lat F n) := by
  obtain ⟨VF, VT, h1, h2, h3, h4, h5⟩ := h.m
  have hr := h5.row n (by simp [h.lF, h.lT]; omega)
  rw [vat_left _ _ (by simp [h1, h2]; omega), vat_left _ _ (by rw [h1]; exact hn), lat_left _ _ (by simp [h.lF, h.lT]; omega), lat_left _ _ (by rw [h.lF]; exact hn)] at hr
  obtain ⟨A, c, e⟩ := Kd.R_slice hr
  rw [e] at hr
  exact ⟨A, c, by rw [← e]; exact tab_cell h3 n (by rw [h1]; exact hn), (Kd.R_reads' hr).2.2⟩
theorem Sv.rowT (h : Sv w wr N g F T po S I O B vr row) (n : Nat) (hn : n < N) : ∃ A c, wr.cell? ⟨g.gT, n, none⟩ = some (.slice A (lat T n).length c) ∧ (Kd.int .i64).C wr A (lat T n).length (lat T n) := by
  obtain ⟨VF, VT, h1, h2, h3, h4, h5⟩ := h.m
  have hr := h5.row (N + n) (by simp [h.lF, h.lT]; omega)
  have e1 : vat (VF ++ VT) (N + n) = vat VT n := by have := vat_right VF VT n; rwa [h1] at this
  have e2 : lat (F ++ T) (N + n) = lat T n := by have := lat_right F T n; rwa [h.lF] at this
  rw [vat_left _ _ (by simp [h1, h2]; omega), e1, lat_left _ _ (by simp [h.lF, h.lT]; omega), e2] at hr
  obtain ⟨A, c, e⟩ := Kd.R_slice hr
  rw [e] at hr
  exact ⟨A, c, by rw [← e]; exact tab_cell h4 n (by rw [h2]; exact hn), (Kd.R_reads' hr).2.2⟩
/-- All is made. -/
theorem Sv.begin {gF gT : Nat} (h : Tb w wr gF gT N F T po) (hp : ∃ cs, po = .cells cs 35 (0, 0)) (b : Below wr.heap.size wr w1) {gS gI gO gW : Nat}
    (h1 : w1.heap[gS]? = some (.cells (us S) 29 (0, 0))) (h2 : w1.heap[gI]? = some (.cells (us I) 29 (0, 0))) (h3 : w1.heap[gO]? = some (.cells (us O) 29 (0, 0))) (h4 : w1.heap[gW]? = some (.cells (bs B) 4 (0, 0)))
    (n1 : gS ≠ gI) (n2 : gS ≠ gO) (n3 : gI ≠ gO) (l1 : wr.heap.size ≤ gS) (l2 : wr.heap.size ≤ gI) (l3 : wr.heap.size ≤ gO) (l4 : wr.heap.size ≤ gW) (s1 : S.length = N) (s2 : I.length = N) (s3 : O.length = N) (s4 : B.length = N)
    (hr : RI w1 w.heap.size vr row) (hf : ∀ k, vr.ownBlock = some k → wr.heap.size ≤ k) : Sv w w1 N ⟨gF, gT, gS, gI, gO, gW⟩ F T po S I O B vr row := by
  obtain ⟨VF, VT, q1, q2, q3, q4, q5⟩ := h.m
  obtain ⟨cs, q6⟩ := hp
  have hz := h.bel.size
  exact ⟨⟨VF, VT, q1, q2, (b.block _ (blk_lt q3)).trans q3, (b.block _ (blk_lt q4)).trans q4, q5.snoc b hr hf⟩, h.lF, h.lT, h1, h2, h3, h4, n1, n2, n3, by show _ ≤ gS; omega, by show _ ≤ gI; omega, by show _ ≤ gO; omega, by show _ ≤ gW; omega, s1, s2, s3, s4, below_step h.bel b, ⟨cs, q6, (b.block _ (blk_lt h.pb)).trans h.pb⟩⟩
end
theorem rd_ints (l : List Nat) (q : Nat) (h : q < l.length) : rd (ints l) (q : Int) = ((l.getD q 0 : Nat) : Int) := by
  simp [rd, ints, List.getD_eq_getElem?_getD, List.getElem?_eq_getElem h]
theorem getD_any {α : Type} (l : List α) (i : Nat) (d d' : α) (h : i < l.length) : l.getD i d = l.getD i d' := by
  rw [List.getD_eq_getElem?_getD, List.getD_eq_getElem?_getD, List.getElem?_eq_getElem h]; rfl
theorem fold_take {α β : Type} (f : β → α → β) (b : β) (l : List α) (q : Nat) (d : α) (h : q < l.length) : (l.take (q + 1)).foldl f b = f ((l.take q).foldl f b) (l.getD q d) := by
  rw [List.take_succ_eq_append_getElem h, List.foldl_append, List.getD_eq_getElem?_getD, List.getElem?_eq_getElem h]; rfl
theorem getD_mem' {l : List Nat} {q : Nat} (h : q < l.length) : l.getD q 0 ∈ l := getD_mem h
theorem vin_eq (Q : Sys) (E : List (Nat × Nat)) (bt : V) (h1 : Q.E = E) (h2 : bt = Q.bot) (o : List V) (n : Nat) : Q.vin o n = (preds E n).foldl (fun v k => Q.join v (o.getD k bt)) (Q.start n) := by
  subst h1
  subst h2
  rfl
theorem rep_of {α : Type} (l : List α) (n : Nat) (x d : α) (hl : l.length = n) (h : ∀ j, j < n → l.getD j d = x) : l = List.replicate n x := by
  apply List.ext_getElem (by simp [hl])
  intro i h1 h2
  have := h i (by omega)
  rw [List.getD_eq_getElem?_getD, List.getElem?_eq_getElem h1] at this
  simpa using this
theorem eok_edges {n : Nat} {es : List (Int × Int)} (h : allOk n es = true) : ∀ e ∈ nE es, e.1 < n ∧ e.2 < n := by
  intro e he
  unfold nE at he
  obtain ⟨x, hx, rfl⟩ := List.mem_map.1 he
  obtain ⟨k, hk, rfl⟩ := List.mem_iff_getElem.1 hx
  have := eOk_at h hk
  rw [List.getD_eq_getElem?_getD, List.getElem?_eq_getElem hk] at this
  have h2 : 0 ≤ es[k].1 ∧ es[k].1 < n ∧ 0 ≤ es[k].2 ∧ es[k].2 < n := this
  constructor <;> simp only <;> omega
theorem step_same (Q : Sys) (s : St) (n : Nat) (h : Q.flow n (Q.vin s.o n) = s.o.getD n Q.bot) : Q.step s n = ⟨s.i.set n (Q.vin s.o n), s.o, s.wt.set n false, s.row⟩ := by unfold Sys.step; rw [if_pos h]
theorem step_new (Q : Sys) (s : St) (n : Nat) (h : ¬ Q.flow n (Q.vin s.o n) = s.o.getD n Q.bot) : Q.step s n = ⟨s.i.set n (Q.vin s.o n), s.o.set n (Q.flow n (Q.vin s.o n)), (push (succs Q.E n) (s.wt.set n false, s.row)).1, (push (succs Q.E n) (s.wt.set n false, s.row)).2⟩ := by unfold Sys.step; rw [if_neg h]
theorem push1_yes (s : List Bool × List Nat) (k : Nat) (h : s.1.getD k false = true) : push1 s k = s := by unfold push1; rw [if_pos h]
theorem push1_no (s : List Bool × List Nat) (k : Nat) (h : s.1.getD k false = false) : push1 s k = (s.1.set k true, s.2 ++ [k]) := by unfold push1; rw [if_neg (by rw [h]; simp)]
theorem push_take (l : List Nat) (s : List Bool × List Nat) (q : Nat) (h : q < l.length) : push (l.take (q + 1)) s = push1 (push (l.take q) s) (l.getD q 0) := by
  rw [push_fold, push_fold]; exact fold_take _ _ _ _ _ h
theorem ints_snoc (l : List Nat) (k : Nat) : ints l ++ [(k : Int)] = ints (l ++ [k]) := by simp [ints]
end Go.Proofs.Ytfdhpogpeajifaa.Lat
