/- Sets of numbers as bits, joined by union or by meet: both are such questions. -/
import Derived.Test.YtfdhpogpeajifaaLaA
namespace Go.Proofs.Ytfdhpogpeajifaa.Lat
set_option linter.unusedVariables false
set_option linter.unusedSimpArgs false
def pc (v : V) : Nat := (List.range 64).countP fun i => v.getLsbD i
theorem countP_mono {α : Type} (p q : α → Bool) : ∀ l : List α, (∀ x ∈ l, p x = true → q x = true) → l.countP p ≤ l.countP q
  | [], _ => Nat.le_refl _
  | x :: l, h => by
    have := countP_mono p q l fun y hy => h y (List.mem_cons_of_mem _ hy)
    have h0 := h x List.mem_cons_self
    rw [List.countP_cons, List.countP_cons]
    cases hp : p x
    · simp; omega
    · rw [h0 hp]; simpa using this
theorem countP_strict {α : Type} (p q : α → Bool) : ∀ l : List α, (∀ x ∈ l, p x = true → q x = true) → (∃ x ∈ l, p x = false ∧ q x = true) → l.countP p < l.countP q
  | [], _, h => by obtain ⟨x, hx, _⟩ := h; cases hx
  | x :: l, h, hx => by
    have h1 := countP_mono p q l fun y hy => h y (List.mem_cons_of_mem _ hy)
    have h0 := h x List.mem_cons_self
    rw [List.countP_cons, List.countP_cons]
    by_cases he : p x = false ∧ q x = true
    · rw [he.1, he.2]; simp; omega
    · obtain ⟨y, hy, hp⟩ := hx
      have hy' : y ∈ l := by
        rcases List.mem_cons.1 hy with rfl | hy
        · exact absurd hp he
        · exact hy
      have h2 := countP_strict p q l (fun y hy => h y (List.mem_cons_of_mem _ hy)) ⟨y, hy', hp⟩
      cases hp : p x
      · simp; omega
      · rw [h0 hp]; simpa using h2
theorem pc_le (v : V) : pc v ≤ 64 := by
  have := List.countP_le_length (p := fun i => v.getLsbD i) (l := List.range 64)
  rw [List.length_range] at this
  exact this
def sub (a b : V) : Prop := ∀ i : Nat, a.getLsbD i = true → b.getLsbD i = true
theorem pc_lt {a b : V} (h : sub a b) (hne : a ≠ b) : pc a < pc b := by
  refine countP_strict _ _ _ (fun i _ => h i) (Classical.byContradiction fun hn => hne ?_)
  refine BitVec.eq_of_getLsbD_eq fun i hi => ?_
  cases ha : a.getLsbD i
  · cases hb : b.getLsbD i
    · rfl
    · exact absurd ⟨i, List.mem_range.2 hi, ha, hb⟩ hn
  · exact (h i ha).symm
theorem sub_anti {a b : V} (h : sub a b) (k : sub b a) : a = b := by
  refine BitVec.eq_of_getLsbD_eq fun i hi => ?_
  cases ha : a.getLsbD i
  · cases hb : b.getLsbD i
    · rfl
    · rw [k i hb] at ha; cases ha
  · exact (h i ha).symm
/-- A node: what it makes, what it takes, what it begins with. -/
structure Nd where
  gen : V
  kill : V
  start : V
def fl (l : List Nd) (n : Nat) (v : V) : V := (v &&& ~~~ (l.getD n ⟨0, 0, 0⟩).kill) ||| (l.getD n ⟨0, 0, 0⟩).gen
theorem fl_sub (l : List Nd) (n : Nat) {a b : V} (h : sub a b) : sub (fl l n a) (fl l n b) := by
  intro i hi
  have := h i
  unfold fl at hi ⊢
  simp only [BitVec.getLsbD_or, BitVec.getLsbD_and, Bool.or_eq_true, Bool.and_eq_true] at hi ⊢
  rcases hi with ⟨h1, h2⟩ | h1
  · exact Or.inl ⟨this h1, h2⟩
  · exact Or.inr h1
/-- Joined by union, from nothing. -/
def may (l : List Nd) (E : List (Nat × Nat)) : Sys := ⟨l.length, E, fun n => (l.getD n ⟨0, 0, 0⟩).start, 0, fun a b => a ||| b, fl l, sub, pc⟩
/-- Joined by meet, from all. -/
def must (l : List Nd) (E : List (Nat × Nat)) : Sys := ⟨l.length, E, fun n => ~~~ (l.getD n ⟨0, 0, 0⟩).start, BitVec.allOnes 64, fun a b => a &&& b, fl l, fun a b => sub b a, fun v => 64 - pc v⟩
theorem may_ok {l : List Nd} {E : List (Nat × Nat)} (h : ∀ e ∈ E, e.1 < l.length ∧ e.2 < l.length) : (may l E).Ok where
  refl := fun _ _ h => h
  trans := fun h k i hi => k i (h i hi)
  anti := sub_anti
  jm := by
    intro a b c d h k i hi
    have h1 := h i
    have h2 := k i
    simp only [may, BitVec.getLsbD_or, Bool.or_eq_true] at hi ⊢
    exact hi.imp h1 h2
  fm := fun n => fl_sub l n
  bl := fun a i hi => by simp [may] at hi
  rk := pc_lt
  rb := pc_le
  ed := h
theorem must_ok {l : List Nd} {E : List (Nat × Nat)} (h : ∀ e ∈ E, e.1 < l.length ∧ e.2 < l.length) : (must l E).Ok where
  refl := fun _ _ h => h
  trans := fun h k i hi => h i (k i hi)
  anti := fun h k => sub_anti k h
  jm := by
    intro a b c d h k i hi
    have h1 := h i
    have h2 := k i
    simp only [must, BitVec.getLsbD_and, Bool.and_eq_true] at hi ⊢
    exact ⟨h1 hi.1, h2 hi.2⟩
  fm := fun n => fl_sub l n
  bl := fun a i hi => by
    show (BitVec.allOnes 64).getLsbD i = true
    have : i < 64 := by
      refine Classical.byContradiction fun hn => ?_
      rw [BitVec.getLsbD_of_ge _ _ (by omega)] at hi; cases hi
    rw [BitVec.getLsbD_allOnes]
    simpa using this
  rk := fun {a b} h hne => by
    have h1 := pc_lt h (fun e => hne e.symm)
    have h2 := pc_le a
    show 64 - pc a < 64 - pc b
    omega
  rb := fun a => Nat.sub_le _ _
  ed := h
theorem preds_rev (E : List (Nat × Nat)) (n : Nat) : preds E.reverse n = (preds E n).reverse := by
  unfold preds; rw [List.filter_reverse, List.map_reverse]
theorem may_vin_rev (l : List Nd) (E : List (Nat × Nat)) (o : List V) (n : Nat) : (may l E.reverse).vin o n = (may l E).vin o n := by
  unfold Sys.vin
  show (preds E.reverse n).foldl _ _ = (preds E n).foldl _ _
  rw [preds_rev]
  refine List.Perm.foldl_eq' (List.reverse_perm _) (fun x _ y _ z => ?_) _
  simp only [may]
  rw [BitVec.or_assoc, BitVec.or_assoc, BitVec.or_comm (o.getD x _)]
theorem may_rev {l : List Nd} {E : List (Nat × Nat)} {i o : List V} (h : (may l E.reverse).Lfp i o) : (may l E).Lfp i o :=
  ⟨h.li, h.lo, fun n hn => (h.ins n hn).trans (may_vin_rev l E o n), fun n hn => (h.fix n hn).trans (by rw [may_vin_rev]; rfl), fun q hq => h.least q ⟨hq.1, fun n hn => (hq.2 n hn).trans (by rw [may_vin_rev]; rfl)⟩⟩
end Go.Proofs.Ytfdhpogpeajifaa.Lat
