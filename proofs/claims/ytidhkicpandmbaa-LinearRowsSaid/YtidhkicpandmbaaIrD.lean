/- Lists of predecessors: a row of rows that grow. -/
import Derived.Test.YtidhkicpandmbaaIrA
import Derived.Test.YtidhkicpandmbaaWApart
import Derived.Test.YtidhkicpandmbaaWMore
namespace Go.Proofs.Ytidhkicpandmbaa.IrA
open Go.RowKit Go.Proofs.YtidhkicpandmbaaW.PrintWords Go.Proofs.YtidhkicpandmbaaW.PrintLast Go.Proofs.YtidhkicpandmbaaW.PrintMore Go.Proofs.Ytidhkicpandmbaa.GF
set_option linter.unusedVariables false
set_option linter.unusedSimpArgs false

abbrev KL : Kd (List Int) := Kd.slice 3 (Kd.int .i64)
/-- A row of rows: a list of lists, made above base. -/
abbrev LL (w : World) (base : Nat) (v : Value) (L : List (List Int)) : Prop := Kd.S KL 29 w base (fun _ => True) v L
theorem LL.take {W : World} {base g n cap : Nat} {L : List (List Int)} (h : LL W base (.slice (some ⟨g, 0, none⟩) n cap) L) (t : Nat) (ht : t < n) :
    ∃ (oki : Nat → Prop) (A0 : Option Addr) (c0 : Nat), Kd.R (Kd.int .i64) 3 W base oki (.slice A0 (L.getD t []).length c0) (L.getD t []) ∧ W.cell? ⟨g, t, none⟩ = some (.slice A0 (L.getD t []).length c0) ∧ (L.getD t []).length ≤ c0 ∧ (Kd.int .i64).C W A0 (L.getD t []).length (L.getD t []) ∧ Kd.H KL 29 W base (fun _ => True) (.slice (some ⟨g, 0, none⟩) n cap) L t oki [.slice A0 (L.getD t []).length c0] := by
  obtain ⟨oki, c, hcl, hM, hcc, _, _, hH⟩ := Kd.S_elem h [] (t : Int) (by omega) (by omega)
  rw [Int.toNat_natCast] at hM hcc
  obtain ⟨v, rfl, hv⟩ := hM
  obtain ⟨A, cc, rfl⟩ := Kd.R_slice hv
  have h0 := hcc 0 _ rfl
  have hr := Kd.R_reads' hv
  refine ⟨oki, A, cc, hv, ?_, hr.2.1, hr.2.2, hH⟩
  rwa [show KL.sz = 1 from rfl, Nat.mul_one, Nat.add_zero] at h0
theorem LL.put {W w1 : World} {base g n cap t N : Nat} {L : List (List Int)} {oki : Nat → Prop} {A0 : Option Addr} {c0 m : Nat} {v1 : Value} {x : List Int} (hH : Kd.H KL 29 W base (fun _ => True) (.slice (some ⟨g, 0, none⟩) n cap) L t oki [.slice A0 m c0]) (ht : t < n)
    (hR : Kd.R (Kd.int .i64) 3 W base oki (.slice A0 m c0) (L.getD t [])) (hg : W.grownBy w1 (Value.slice A0 m c0).ownBlock) (ho : Kd.R (Kd.int .i64) 3 w1 base (fun k => oki k ∨ N ≤ k) v1 x) (hN : W.heap.size ≤ N) :
    LL (w1.setCell ⟨g, t, none⟩ v1) base (.slice (some ⟨g, 0, none⟩) n cap) (L.set t x) ∧ w1.cell? ⟨g, t, none⟩ = some (.slice A0 m c0) ∧ w1.frozen? ⟨g, t, none⟩ = false ∧ w1.grownBy (w1.setCell ⟨g, t, none⟩ v1) (some g) := by
  have h3 := Kd.H_grown (Kd.H_widen hH) hg (fun k e => .inl (hR.1 k e))
  obtain ⟨_, _, hraw, _, _, hcc, _⟩ := Kd.H_raw h3 (by omega) (by omega)
  obtain ⟨_, hfr⟩ := Kd.H_at h3 (by omega) (by omega)
  obtain ⟨A1, c1, rfl⟩ := Kd.R_slice ho
  have h4 := Kd.S_seg0 h3 (by omega) (by omega) (seg := [.slice A1 x.length c1]) (j := 0) (show 1 ≤ 1 from by decide) (x' := x) (Kd.M_row ho) (fun _ hk => hk.imp id fun h => ⟨trivial, Nat.le_trans hN h⟩)
  have hx := hcc 0 _ rfl
  have hf := hfr 0
  simp only [show KL.sz = 1 from rfl, Nat.mul_one, Nat.add_zero, Int.toNat_natCast] at h4 hx hf
  exact ⟨h4.1, hx, hf, h4.2⟩

def stepP (L : List (List Int)) (i t : Int) : List (List Int) := if 0 ≤ t ∧ t < L.length then (if i ∈ L.getD t.toNat [] then L else L.set t.toNat (L.getD t.toNat [] ++ [i])) else L
def rowP (L : List (List Int)) (i : Int) (ts : List Int) : List (List Int) := ts.foldl (fun L t => stepP L i t) L
def predsTo (bs : List S39) : Nat → List (List Int)
  | 0 => List.replicate bs.length []
  | n + 1 => rowP (predsTo bs n) (n : Int) (bs.getD n z39).f3
def predsP (bs : List S39) : List (List Int) := predsTo bs bs.length

/-- Ahead of row i; within row i. -/
def In0 (L : List (List Int)) (i : Nat) : Prop := ∀ l ∈ L, (∀ x ∈ l, x < (i : Int)) ∧ l.length ≤ i
def In1 (L : List (List Int)) (i : Nat) : Prop := ∀ l ∈ L, ((∀ x ∈ l, x < (i : Int)) ∧ l.length ≤ i) ∨ ∃ l0, l = l0 ++ [(i : Int)] ∧ (∀ x ∈ l0, x < (i : Int)) ∧ l0.length ≤ i
theorem In0.one {L : List (List Int)} {i : Nat} (h : In0 L i) : In1 L i := fun l hl => .inl (h l hl)
theorem In1.zero {L : List (List Int)} {i : Nat} (h : In1 L i) : In0 L (i + 1) := by
  intro l hl
  rcases h l hl with ⟨h1, h2⟩ | ⟨l0, rfl, h1, h2⟩
  · exact ⟨fun x hx => by have := h1 x hx; omega, by omega⟩
  · refine ⟨fun x hx => ?_, by simp; omega⟩
    rcases List.mem_append.1 hx with hx | hx
    · have := h1 x hx; omega
    · have : x = (i : Int) := by simpa using hx
      omega
theorem getD_in {L : List (List Int)} {t : Nat} (h : t < L.length) : L.getD t [] ∈ L := by
  rw [List.getD_eq_getElem?_getD, List.getElem?_eq_getElem h]; exact List.getElem_mem h
theorem stepP_length (L : List (List Int)) (i t : Int) : (stepP L i t).length = L.length := by
  unfold stepP; split
  · split <;> simp
  · rfl
theorem rowP_length (ts : List Int) : ∀ (L : List (List Int)) (i : Int), (rowP L i ts).length = L.length := by
  induction ts with
  | nil => exact fun _ _ => rfl
  | cons t ts ih => intro L i; show (rowP (stepP L i t) i ts).length = _; rw [ih, stepP_length]
theorem predsTo_length (bs : List S39) : ∀ n, (predsTo bs n).length = bs.length
  | 0 => by simp [predsTo]
  | n + 1 => by rw [predsTo, rowP_length, predsTo_length bs n]
theorem In1.step {L : List (List Int)} {i : Nat} (h : In1 L i) (t : Int) : In1 (stepP L i t) i := by
  unfold stepP
  by_cases hr : 0 ≤ t ∧ t < L.length
  · rw [if_pos hr]
    split
    · exact h
    · rename_i hn
      intro l hl
      rcases List.mem_or_eq_of_mem_set hl with hl | rfl
      · exact h l hl
      · rcases h _ (getD_in (by omega : t.toNat < L.length)) with ⟨h1, h2⟩ | ⟨l0, e, h1, h2⟩
        · exact .inr ⟨_, rfl, h1, h2⟩
        · exact absurd (by rw [e]; simp) hn
  · rw [if_neg hr]; exact h
theorem In1.row {i : Nat} : ∀ (ts : List Int) {L : List (List Int)}, In1 L i → In1 (rowP L i ts) i
  | [], _, h => h
  | t :: ts, L, h => In1.row ts (h.step t)
theorem in0_preds (bs : List S39) : ∀ n, In0 (predsTo bs n) n
  | 0 => by
    intro l hl
    have : l = [] := by simp [predsTo] at hl; exact hl.2
    subst this
    simp
  | n + 1 => (In1.row _ (in0_preds bs n).one).zero
theorem rowP_snoc (L : List (List Int)) (i : Int) (ts : List Int) (j : Nat) (h : j < ts.length) : rowP L i (ts.take (j + 1)) = stepP (rowP L i (ts.take j)) i (rd ts j) := by
  unfold rowP
  rw [List.take_succ_eq_append_getElem h, List.foldl_append]
  simp [rd, List.getD_eq_getElem?_getD, List.getElem?_eq_getElem h]
/-- The last one, or none. -/
theorem In1.last {L : List (List Int)} {i : Nat} (h : In1 L i) {t : Nat} (ht : t < L.length) (hl : 0 < (L.getD t []).length) : (i : Int) ∈ L.getD t [] ↔ rd (L.getD t []) (((L.getD t []).length - 1 : Nat) : Int) = (i : Int) := by
  have hm := h _ (getD_in ht)
  generalize L.getD t [] = l at *
  have er : rd l ((l.length - 1 : Nat) : Int) = l[l.length - 1] := by simp [rd, List.getD_eq_getElem?_getD, List.getElem?_eq_getElem (show l.length - 1 < l.length by omega)]
  rw [er]
  rcases hm with ⟨h1, _⟩ | ⟨l0, rfl, h1, _⟩
  · constructor
    · intro hi; have := h1 _ hi; omega
    · intro e; have := h1 _ (List.getElem_mem (show l.length - 1 < l.length by omega)); omega
  · simp
end Go.Proofs.Ytidhkicpandmbaa.IrA
