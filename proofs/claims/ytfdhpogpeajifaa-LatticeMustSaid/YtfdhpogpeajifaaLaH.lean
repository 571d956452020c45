/- The solver's memory: two tables, three rows of sets, who waits, the row. -/
import Derived.Test.YtfdhpogpeajifaaLaG
namespace Go.Proofs.Ytfdhpogpeajifaa.Lat
open Go.RowKit Go.Proofs.YtfdhpogpeajifaaW.PrintWords Go.Proofs.YtfdhpogpeajifaaW.PrintLast Go.Proofs.YtfdhpogpeajifaaW.PrintMore
set_option linter.unusedVariables false
set_option linter.unusedSimpArgs false
def nE (es : List (Int × Int)) : List (Nat × Nat) := es.map fun e => (e.1.toNat, e.2.toNat)
def ints (l : List Nat) : List Int := l.map fun (x : Nat) => (x : Int)
def rowsF (E : List (Nat × Nat)) (N : Nat) : List (List Int) := (List.range N).map fun n => ints (preds E n)
def rowsT (E : List (Nat × Nat)) (N : Nat) : List (List Int) := (List.range N).map fun n => ints (succs E n)
theorem rowsF_len (E : List (Nat × Nat)) (N : Nat) : (rowsF E N).length = N := by simp [rowsF]
theorem rowsT_len (E : List (Nat × Nat)) (N : Nat) : (rowsT E N).length = N := by simp [rowsT]
theorem rowsF_at (E : List (Nat × Nat)) {N n : Nat} (h : n < N) : lat (rowsF E N) n = ints (preds E n) := by
  simp [lat, rowsF, List.getD_eq_getElem?_getD, h]
theorem rowsT_at (E : List (Nat × Nat)) {N n : Nat} (h : n < N) : lat (rowsT E N) n = ints (succs E n) := by
  simp [lat, rowsT, List.getD_eq_getElem?_getD, h]
theorem preds_snoc (E : List (Nat × Nat)) (a b n : Nat) : preds (E ++ [(a, b)]) n = if b = n then preds E n ++ [a] else preds E n := by
  unfold preds
  rw [List.filter_append, List.map_append]
  by_cases h : b = n
  · rw [if_pos h]; simp [h]
  · rw [if_neg h]; simp [h]
theorem succs_snoc (E : List (Nat × Nat)) (a b n : Nat) : succs (E ++ [(a, b)]) n = if a = n then succs E n ++ [b] else succs E n := by
  unfold succs
  rw [List.filter_append, List.map_append]
  by_cases h : a = n
  · rw [if_pos h]; simp [h]
  · rw [if_neg h]; simp [h]
theorem ext_lat {A B : List (List Int)} (h : A.length = B.length) (k : ∀ n, n < A.length → lat A n = lat B n) : A = B := by
  apply List.ext_getElem h
  intro n h1 h2
  have := k n h1
  unfold lat at this
  rwa [List.getD_eq_getElem?_getD, List.getElem?_eq_getElem h1, List.getD_eq_getElem?_getD, List.getElem?_eq_getElem h2] at this
theorem rowsF_snoc (E : List (Nat × Nat)) {N : Nat} (a b : Nat) (hb : b < N) : rowsF (E ++ [(a, b)]) N = (rowsF E N).set b (lat (rowsF E N) b ++ [(a : Int)]) := by
  refine ext_lat (by simp [rowsF_len]) fun n hn => ?_
  rw [rowsF_len] at hn
  rw [rowsF_at _ hn, lat_set _ _ _ _ (by rw [rowsF_len]; exact hb), preds_snoc]
  by_cases h : b = n
  · rw [if_pos h, if_pos h, h, rowsF_at _ hn]; simp [ints]
  · rw [if_neg h, if_neg h, rowsF_at _ hn]
theorem rowsT_snoc (E : List (Nat × Nat)) {N : Nat} (a b : Nat) (ha : a < N) : rowsT (E ++ [(a, b)]) N = (rowsT E N).set a (lat (rowsT E N) a ++ [(b : Int)]) := by
  refine ext_lat (by simp [rowsT_len]) fun n hn => ?_
  rw [rowsT_len] at hn
  rw [rowsT_at _ hn, lat_set _ _ _ _ (by rw [rowsT_len]; exact ha), succs_snoc]
  by_cases h : a = n
  · rw [if_pos h, if_pos h, h, rowsT_at _ hn]; simp [ints]
  · rw [if_neg h, if_neg h, rowsT_at _ hn]
theorem ints_len (l : List Nat) : (ints l).length = l.length := by simp [ints]
theorem preds_len (E : List (Nat × Nat)) (n : Nat) : (preds E n).length ≤ E.length := by
  unfold preds; rw [List.length_map]; exact List.length_filter_le _ _
theorem succs_len (E : List (Nat × Nat)) (n : Nat) : (succs E n).length ≤ E.length := by
  unfold succs; rw [List.length_map]; exact List.length_filter_le _ _
theorem nE_take (es : List (Int × Int)) (k : Nat) (hk : k < es.length) (e : Int × Int) (he : es.getD k (0, 0) = e) : nE (es.take (k + 1)) = nE (es.take k) ++ [(e.1.toNat, e.2.toNat)] := by
  unfold nE
  rw [List.take_succ_eq_append_getElem hk, List.map_append]
  rw [List.getD_eq_getElem?_getD, List.getElem?_eq_getElem hk] at he
  rw [← he]; rfl
theorem vat_left (A B : List Value) {i : Nat} (h : i < A.length) : vat (A ++ B) i = vat A i := by
  simp [vat, List.getD_eq_getElem?_getD, List.getElem?_append_left h]
theorem vat_right (A B : List Value) (i : Nat) : vat (A ++ B) (A.length + i) = vat B i := by
  simp [vat, List.getD_eq_getElem?_getD, List.getElem?_append_right]
theorem lat_left (A B : List (List Int)) {i : Nat} (h : i < A.length) : lat (A ++ B) i = lat A i := by
  simp [lat, List.getD_eq_getElem?_getD, List.getElem?_append_left h]
theorem lat_right (A B : List (List Int)) (i : Nat) : lat (A ++ B) (A.length + i) = lat B i := by
  simp [lat, List.getD_eq_getElem?_getD, List.getElem?_append_right]
theorem set_left {α : Type} (A B : List α) {i : Nat} (x : α) (h : i < A.length) : (A ++ B).set i x = A.set i x ++ B := by
  rw [List.set_append_left _ _ h]
theorem set_right {α : Type} (A B : List α) (i : Nat) (x : α) : (A ++ B).set (A.length + i) x = A ++ B.set i x := by
  rw [List.set_append_right _ _ (by omega)]; simp
theorem Rws.nils (w : World) (base : Nat) (n : Nat) : Rws w base (List.replicate n (.slice none 0 0)) (List.replicate n []) := by
  have hv : ∀ i, vat (List.replicate n (.slice none 0 0)) i = .slice none 0 0 := fun i => by
    unfold vat
    by_cases h : i < n
    · exact getD_rep _ _ _ _ h
    · exact getD_over _ _ _ (by simp; omega)
  have hl : ∀ i, lat (List.replicate n []) i = [] := fun i => by
    unfold lat
    by_cases h : i < n
    · exact getD_rep _ _ _ _ h
    · exact getD_over _ _ _ (by simp; omega)
  refine ⟨by simp, fun i _ => ?_, fun i j k _ _ _ h _ => ?_⟩
  · rw [hv, hl]; exact Kd.R_nil _ _ _ _ _
  · rw [hv] at h; simp [Value.ownBlock] at h
/-- One row more, made behind the others' standing. -/
theorem Rws.snoc {w w1 : World} {base : Nat} {Vs : List Value} {L : List (List Int)} (h : Rws w base Vs L) (b : Below w.heap.size w w1) {v : Value} {l : List Int} (ho : RI w1 base v l) (hf : ∀ k, v.ownBlock = some k → w.heap.size ≤ k) : Rws w1 base (Vs ++ [v]) (L ++ [l]) := by
  have hlast : ∀ i, i < (L ++ [l]).length → ¬ i < L.length → i = L.length := fun i h1 h2 => by simp at h1; omega
  have e1 : vat (Vs ++ [v]) L.length = v := by rw [← h.len]; exact vat_right Vs [v] 0
  have e2 : lat (L ++ [l]) L.length = l := lat_right L [l] 0
  refine ⟨by simp [h.len], fun i hi => ?_, fun i j k hi hj hne h1 h2 => ?_⟩
  · by_cases hlt : i < L.length
    · rw [vat_left _ _ (by rw [h.len]; exact hlt), lat_left _ _ hlt]
      exact Kd.R_below (h.row i hlt) b
    · rw [hlast i hi hlt, e1, e2]; exact ho
  · by_cases h3 : i < L.length
    · rw [vat_left _ _ (by rw [h.len]; exact h3)] at h1
      by_cases h4 : j < L.length
      · rw [vat_left _ _ (by rw [h.len]; exact h4)] at h2
        exact h.ap i j k h3 h4 hne h1 h2
      · rw [hlast j hj h4, e1] at h2
        have := hf k h2
        have := Kd.R_lt (h.row i h3) k h1
        omega
    · rw [hlast i hi h3, e1] at h1
      by_cases h4 : j < L.length
      · rw [vat_left _ _ (by rw [h.len]; exact h4)] at h2
        have := hf k h1
        have := Kd.R_lt (h.row j h4) k h2
        omega
      · exact hne (by rw [hlast i hi h3, hlast j hj h4])
def us (l : List V) : Array Value := (l.map uv).toArray
def bs (l : List Bool) : Array Value := (l.map Value.bool).toArray
def nilA (n : Nat) : Array Value := (List.replicate n (Value.slice none 0 0)).toArray
def zA (n : Nat) : Array Value := (List.replicate n (Value.int .i64 0)).toArray
def zeros (n : Nat) : List V := List.replicate n 0
theorem us_cell {w : World} {g : Nat} {l : List V} (h : w.heap[g]? = some (.cells (us l) 29 (0, 0))) (i : Nat) (hi : i < l.length) : w.cell? ⟨g, i, none⟩ = some (uv (l.getD i 0)) := by
  rw [blk_cell h i]
  simp [us, List.getD_eq_getElem?_getD, List.getElem?_eq_getElem hi]
theorem us_set {w : World} {g : Nat} {l : List V} (h : w.heap[g]? = some (.cells (us l) 29 (0, 0))) (i : Nat) (x : V) : (w.setCell ⟨g, i, none⟩ (uv x)).heap[g]? = some (.cells (us (l.set i x)) 29 (0, 0)) := by
  rw [blk_set h i (uv x)]; simp [us, List.map_set]
theorem bs_cell {w : World} {g : Nat} {l : List Bool} (h : w.heap[g]? = some (.cells (bs l) 4 (0, 0))) (i : Nat) (hi : i < l.length) : w.cell? ⟨g, i, none⟩ = some (.bool (l.getD i false)) := by
  rw [blk_cell h i]
  simp [bs, List.getD_eq_getElem?_getD, List.getElem?_eq_getElem hi]
theorem bs_set {w : World} {g : Nat} {l : List Bool} (h : w.heap[g]? = some (.cells (bs l) 4 (0, 0))) (i : Nat) (x : Bool) : (w.setCell ⟨g, i, none⟩ (.bool x)).heap[g]? = some (.cells (bs (l.set i x)) 4 (0, 0)) := by
  rw [blk_set h i (.bool x)]; simp [bs, List.map_set]
theorem made_rep (z : Value) (n : Nat) : madeCells #[z] n = (List.replicate n z).toArray := by
  apply Array.ext
  · simp [size_madeCells]
  · intro i h1 h2
    simp [madeCells]
    rw [show i % 1 = 0 by omega]
    rfl
theorem us_rep (n : Nat) (x : V) : us (List.replicate n x) = (List.replicate n (uv x)).toArray := by simp [us]
theorem bs_rep (n : Nat) (x : Bool) : bs (List.replicate n x) = (List.replicate n (.bool x)).toArray := by simp [bs]
theorem mk54 (n : Nat) (h : n ≤ 4096) (W : World) : (Instr.makeSlice 54 (.int .i64 (n : Int)) (.int .i64 (n : Int))).run Try.prog W = .ok (.slice (some ⟨W.heap.size, 0, none⟩) n n) (W.alloc (.cells (nilA n) 55)) := by
  have := print_make_int (P := Try.prog) 54 55 (.slice none 0 0) 24 Try.underlying54 info55 rfl (by decide) (n : Int) (by omega) (by omega) W
  rwa [Int.toNat_natCast, made_rep] at this
theorem mk25 (n : Nat) (h : n ≤ 4096) (W : World) : (Instr.makeSlice 25 (.int .i64 (n : Int)) (.int .i64 (n : Int))).run Try.prog W = .ok (.slice (some ⟨W.heap.size, 0, none⟩) n n) (W.alloc (.cells (us (zeros n)) 29)) := by
  have := print_make_int (P := Try.prog) 25 29 (.int .u64 0) 8 Try.underlying25 PLatticeSolves.info29 rfl (by decide) (n : Int) (by omega) (by omega) W
  rwa [Int.toNat_natCast, made_rep, show (List.replicate n (Value.int .u64 0)).toArray = us (zeros n) from (us_rep n 0).symm] at this
theorem info4 : (Try.prog.info? 4).map (fun i => (i.zero, i.size, i.bytes)) = some (some (.bool false), 1, 1) := by kernel_rfl
theorem mk56 (n : Nat) (h : n ≤ 4096) (W : World) : (Instr.makeSlice 56 (.int .i64 (n : Int)) (.int .i64 (n : Int))).run Try.prog W = .ok (.slice (some ⟨W.heap.size, 0, none⟩) n n) (W.alloc (.cells (bs (List.replicate n false)) 4)) := by
  have := print_make_int (P := Try.prog) 56 4 (.bool false) 1 Try.underlying56 info4 rfl (by decide) (n : Int) (by omega) (by omega) W
  rwa [Int.toNat_natCast, made_rep, ← bs_rep] at this
theorem mk55 (n : Nat) (h : n ≤ 4096) (W : World) : (Instr.makeSlice 55 (.int .i64 0) (.int .i64 (n : Int))).run Try.prog W = .ok (.slice (some ⟨W.heap.size, 0, none⟩) 0 n) (W.alloc (.cells (zA n) 3)) := by
  obtain ⟨i, hi, hzz⟩ := Option.map_eq_some_iff.1 info3
  simp only [Prod.mk.injEq] at hzz
  obtain ⟨hz0, hz1, hz2⟩ := hzz
  have hr := run_make (P := Try.prog) W 55 3 i (.int .i64 0) Try.underlying55 hi hz0 .i64 .i64 0 (n : Int) (by omega) (by omega) (by rw [hz2]; omega) (by omega)
  simp only [Int.toNat_natCast, hz1, Nat.mul_one] at hr
  rw [show (Value.int .i64 0).cells = #[.int .i64 0] from rfl, made_rep] at hr
  exact hr
/-- The row of those that wait, made empty with room. -/
theorem row_made (W : World) (base : Nat) (n : Nat) (hb : base ≤ W.heap.size) (h : n ≤ 4096) : RI (W.alloc (.cells (zA n) 3)) base (.slice (some ⟨W.heap.size, 0, none⟩) 0 n) [] := by
  have h1 := own_made' W base 3 .i64 n hb (by omega)
  rw [made_rep] at h1
  have h2 : RI (W.alloc (.cells (zA n) 3)) base (.slice (some ⟨W.heap.size, 0, none⟩) n n) (List.replicate n 0) := Kd.R_of_own h1 (fun _ _ => trivial)
  exact Kd.R_take (m := 0) h2 (Nat.zero_le _)
end Go.Proofs.Ytfdhpogpeajifaa.Lat
