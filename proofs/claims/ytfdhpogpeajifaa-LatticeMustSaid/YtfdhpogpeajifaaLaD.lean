/- Two tables of rows of numbers that grow: all their rows apart. -/
import Derived.Test.YtfdhpogpeajifaaLaC
namespace Go.Proofs.Ytfdhpogpeajifaa.Lat
open Go.RowKit Go.Proofs.YtfdhpogpeajifaaW.PrintWords Go.Proofs.YtfdhpogpeajifaaW.PrintLast Go.Proofs.YtfdhpogpeajifaaW.PrintMore
set_option linter.unusedVariables false
set_option linter.unusedSimpArgs false
theorem info3 : (Try.prog.info? 3).map (fun i => (i.zero, i.size, i.bytes)) = some (some (.int .i64 0), 1, 8) := by kernel_rfl
theorem info55 : (Try.prog.info? 55).map (fun i => (i.zero, i.size, i.bytes)) = some (some (.slice none 0 0), 1, 24) := by kernel_rfl
abbrev RI (w : World) (base : Nat) (v : Value) (l : List Int) : Prop := Kd.R (Kd.int .i64) 3 w base (fun _ => True) v l
def vat (V : List Value) (i : Nat) : Value := V.getD i (.slice none 0 0)
def lat (L : List (List Int)) (i : Nat) : List Int := L.getD i []
theorem RI.grown {w w1 : World} {base : Nat} {v : Value} {l : List Int} (h : RI w base v l) {r : Option Nat} (hg : w.grownBy w1 r) (hr : ∀ k, v.ownBlock = some k → some k ≠ r) : RI w1 base v l :=
  Kd.R_mono (Kd.R_grown (Kd.R_flat (ok' := fun k => v.ownBlock = some k) (fun h => h) h (fun k hk _ => hk)) hg hr) (fun _ _ => trivial)
structure Rws (w : World) (base : Nat) (Vs : List Value) (L : List (List Int)) : Prop where
  len : Vs.length = L.length
  row : ∀ i, i < L.length → RI w base (vat Vs i) (lat L i)
  ap : ∀ i j k, i < L.length → j < L.length → i ≠ j → (vat Vs i).ownBlock = some k → (vat Vs j).ownBlock = some k → False
theorem Rws.below {w w1 : World} {base : Nat} {Vs : List Value} {L : List (List Int)} (h : Rws w base Vs L) (b : Below w.heap.size w w1) : Rws w1 base Vs L :=
  ⟨h.len, fun i hi => Kd.R_below (h.row i hi) b, h.ap⟩
theorem Rws.alloc {w : World} {base : Nat} {Vs : List Value} {L : List (List Int)} (h : Rws w base Vs L) (o : Obj) : Rws (w.alloc o) base Vs L := h.below (below_alloc (Below.refl _ _) o)
theorem Rws.set_ {w : World} {base : Nat} {Vs : List Value} {L : List (List Int)} (h : Rws w base Vs L) {g t : Nat} {cs : Array Value} (hb : w.heap[g]? = some (.cells cs t (0, 0))) (ht : 3 ≠ t) (j : Nat) (u : Value) : Rws (w.setCell ⟨g, j, none⟩ u) base Vs L :=
  ⟨h.len, fun i hi => Kd.R_set (h.row i hi) hb (by intro q hq; rcases List.mem_cons.1 hq with rfl | hq; exact ht; cases hq) j u, h.ap⟩
theorem vat_set (Vs : List Value) (p i : Nat) (v : Value) (hp : p < Vs.length) : vat (Vs.set p v) i = if p = i then v else vat Vs i := by
  unfold vat
  by_cases e : p = i
  · subst e; rw [if_pos rfl, getD_set_eq _ _ _ _ hp]
  · rw [if_neg e, getD_set_ne _ _ _ _ _ e]
theorem lat_set (L : List (List Int)) (p i : Nat) (v : List Int) (hp : p < L.length) : lat (L.set p v) i = if p = i then v else lat L i := by
  unfold lat
  by_cases e : p = i
  · subst e; rw [if_pos rfl, getD_set_eq _ _ _ _ hp]
  · rw [if_neg e, getD_set_ne _ _ _ _ _ e]
theorem Rws.app {w w1 : World} {base : Nat} {Vs : List Value} {L : List (List Int)} (h : Rws w base Vs L) {p : Nat} (hp : p < L.length) {v1 : Value} {x : List Int} (hg : w.grownBy w1 (vat Vs p).ownBlock) (ho : RI w1 base v1 x)
    (hat : v1.ownBlock = (vat Vs p).ownBlock ∨ ∃ b, v1.ownBlock = some b ∧ w.heap.size ≤ b) : Rws w1 base (Vs.set p v1) (L.set p x) := by
  have hpv : p < Vs.length := by rw [h.len]; exact hp
  have hfar : ∀ i k, i < L.length → i ≠ p → (vat Vs i).ownBlock = some k → v1.ownBlock = some k → False := by
    intro i k hi hne hk hk1
    rcases hat with e | ⟨b, e, hb⟩
    · exact h.ap i p k hi hp hne hk (e ▸ hk1)
    · rw [e] at hk1
      injection hk1 with hk1
      have := Kd.R_lt (h.row i hi) k hk
      omega
  refine ⟨by simpa using h.len, fun i hi => ?_, fun i j k hi hj hne h1 h2 => ?_⟩
  · rw [List.length_set] at hi
    rw [vat_set _ _ _ _ hpv, lat_set _ _ _ _ hp]
    by_cases e : p = i
    · rw [if_pos e, if_pos e]; exact ho
    · rw [if_neg e, if_neg e]
      exact (h.row i hi).grown hg (fun k hk e' => h.ap i p k hi hp (fun z => e z.symm) hk e'.symm)
  · rw [List.length_set] at hi hj
    rw [vat_set _ _ _ _ hpv] at h1 h2
    by_cases e1 : p = i
    · rw [if_pos e1] at h1
      by_cases e2 : p = j
      · exact hne (e1.symm.trans e2)
      · rw [if_neg e2] at h2
        exact hfar j k hj (fun z => e2 z.symm) h2 h1
    · rw [if_neg e1] at h1
      by_cases e2 : p = j
      · rw [if_pos e2] at h2
        exact hfar i k hi (fun z => e1 z.symm) h1 h2
      · rw [if_neg e2] at h2
        exact h.ap i j k hi hj hne h1 h2
/-- A literal of one number, made from N on. -/
def lit (w : World) (N : Nat) (z : Value) (e : Int) : Prop := ∃ b, N ≤ b ∧ z = .slice (some ⟨b, 0, none⟩) 1 1 ∧ w.heap[b]? = some (.cells #[.int .i64 e] 3 (0, 0))
theorem lit.new (w : World) {N : Nat} (h : N ≤ w.heap.size) (e : Int) : lit (w.alloc (.cells #[.int .i64 e] 3)) N (.slice (some ⟨w.heap.size, 0, none⟩) 1 1) e := ⟨_, h, rfl, blk_new w _⟩
theorem lit.alloc {w : World} {N : Nat} {z : Value} {e : Int} (h : lit w N z e) (o : Obj) : lit (w.alloc o) N z e := by
  obtain ⟨b, h1, h2, h3⟩ := h
  exact ⟨b, h1, h2, blk_alloc h3 o⟩
theorem lit.grown {w w1 : World} {N : Nat} {z : Value} {e : Int} (h : lit w N z e) {r : Option Nat} (hg : w.grownBy w1 r) (hr : ∀ k, r = some k → k < N) : lit w1 N z e := by
  obtain ⟨b, h1, h2, h3⟩ := h
  exact ⟨b, h1, h2, blk_grown h3 hg (fun q => by have := hr b q.symm; omega)⟩
theorem lit.set_ {w : World} {N : Nat} {z : Value} {e : Int} (h : lit w N z e) {g : Nat} (hg : g < N) (j : Nat) (u : Value) : lit (w.setCell ⟨g, j, none⟩ u) N z e := by
  obtain ⟨b, h1, h2, h3⟩ := h
  exact ⟨b, h1, h2, blk_far h3 (fun q : b = g => by omega) u⟩
theorem lit_C {w : World} {b : Nat} {e : Int} (h : w.heap[b]? = some (.cells #[.int .i64 e] 3 (0, 0))) : (Kd.int .i64).C w (some ⟨b, 0, none⟩) 1 [e] := by
  refine Kd.C_of_reads (d := (0 : Int)) ⟨rfl, by omega, fun _ => ⟨⟨b, 0, none⟩, rfl, fun j hj => ?_⟩⟩
  obtain rfl : j = 0 := by omega
  rw [add_plain]
  exact (blk_cell h 0).trans rfl
theorem tab_cell {w : World} {g : Nat} {Vs : List Value} (h : w.heap[g]? = some (.cells Vs.toArray 55 (0, 0))) (i : Nat) (hi : i < Vs.length) : w.cell? ⟨g, i, none⟩ = some (vat Vs i) := by
  rw [blk_cell h i]
  simp [vat, List.getD_eq_getElem?_getD, List.getElem?_eq_getElem hi]
theorem tab_set {w : World} {g : Nat} {Vs : List Value} (h : w.heap[g]? = some (.cells Vs.toArray 55 (0, 0))) (i : Nat) (u : Value) : (w.setCell ⟨g, i, none⟩ u).heap[g]? = some (.cells (Vs.set i u).toArray 55 (0, 0)) := by
  rw [blk_set h i u]; simp
theorem ne_ty {w : World} {g g' : Nat} {t t' : TypeId} {cs cs' : Array Value} (h : w.heap[g]? = some (.cells cs t (0, 0))) (h' : w.heap[g']? = some (.cells cs' t' (0, 0))) (hne : (t == t') = false) : g ≠ g' := blk_ne h h' (by simpa using hne)
end Go.Proofs.Ytfdhpogpeajifaa.Lat
