/- The law of rows. -/
import Derived.Test.YtidhkicpandmbaaRwK
import Derived.Test.YtidhkicpandmbaaIrT
import Derived.Deep.RegionHeld3
namespace Go.Proofs.Ytidhkicpandmbaa.RwB
open Go.RowKit Go.Shelf Go.Proofs.YtidhkicpandmbaaW.PrintWords Go.Proofs.YtidhkicpandmbaaW.PrintLast Go.Proofs.YtidhkicpandmbaaW.PrintMore Go.Proofs.Ytidhkicpandmbaa.GF Go.Proofs.Ytidhkicpandmbaa.IrA Go.Proofs.Ytidhkicpandmbaa.RwA Go.Proofs.Ytidhkicpandmbaa.RwB Go.Proofs.Ytidhkicpandmbaa.RwC
set_option linter.unusedVariables false
set_option linter.unusedSimpArgs false
/-- Where each block stands in a row's first i (from 1 on; 0: nowhere). -/
def atP (row : List Int) (n : Nat) : Nat → List Int
  | 0 => List.replicate n 0
  | i + 1 => (atP row n i).set (row.getD i 0).toNat ((i : Int) + 1)
theorem atP_length (row : List Int) (n : Nat) : ∀ i, (atP row n i).length = n
  | 0 => by simp [atP]
  | i + 1 => by simp [atP, atP_length row n i]
/-- What is known of a row. -/
structure RF (bs : List S39) (row : List Int) : Prop where
  nd : row.Nodup
  mem : ∀ y : Int, y ∈ row ↔ 0 ≤ y ∧ y < bs.length ∧ (reached bs).getD y.toNat false = true
  z : row.getD 0 0 = 0
  pos : 0 < row.length
  len : row.length ≤ bs.length
  ends : ∀ p q, p < row.length → q < row.length → fallsP (ToB bs) row ((p : Int) + 1) = false → row.getD q 0 ∈ ToB bs (row.getD p 0).toNat → row.getD q 0 ≠ 0 → fallsP (ToB bs) row (q : Int) = false → beginP (ToB bs) row (p + 1) = q + 1
  into : ∀ x : Nat, x < bs.length → (reached bs).getD x false = true → ∀ t ∈ ToB bs x, t ∈ row
theorem RF.of {pa re sl glob : Int} {fs : List S28} {bs : List S39} {g : G} (hc : checkB fs glob pa re sl bs = true) (h : RowIs bs.length (ToB bs) (EnB bs) (reached bs) g.a g.b g.hd g.ix g.ln) : RF bs (outTo (reached bs) g.a g.b g.ln bs.length) := by
  unfold checkB at hc
  simp only [Bool.and_eq_true] at hc
  obtain ⟨hs, he, _⟩ := hc
  have hn : 0 < bs.length := by
    unfold sizesB wi at hs
    simp at hs
    omega
  have hE : ∀ x, x < bs.length → endB re bs.length (bs.getD x z39) = true := fun x hx => by
    unfold endsTo at he
    exact List.all_eq_true.1 he x (List.mem_range.2 hx)
  have hT : ∀ x, x < bs.length → ∀ t ∈ ToB bs x, 0 ≤ t ∧ t < bs.length := fun x hx t ht => by
    have := hE x hx
    unfold endB tosB at this
    simp only [Bool.and_eq_true] at this
    have h2 := List.all_eq_true.1 this.1 t ht
    unfold wi at h2
    simp at h2
    omega
  have hcl : ∀ x, x < bs.length → (reached bs).getD x false = true → ∀ t ∈ ToB bs x, 0 ≤ t ∧ t < bs.length ∧ (reached bs).getD t.toNat false = true := fun x hx hr t ht => by
    obtain ⟨h1, h2⟩ := hT x hx t ht
    exact ⟨h1, h2, reached_closed bs x hx hr t ht h1 h2⟩
  have hen : ∀ x, x < bs.length → (reached bs).getD x false = true → ToB bs x ≠ [] → EnB bs x = 1 ∨ EnB bs x = 2 := fun x hx _ ht => by
    have := hE x hx
    unfold endB at this
    simp only [Bool.and_eq_true] at this
    have h2 := this.2
    by_cases h3 : (bs.getD x z39).f1 = 1
    · exact .inl h3
    · by_cases h4 : (bs.getD x z39).f1 = 2
      · exact .inr h4
      · rw [if_neg h3, if_neg h4] at h2
        by_cases h5 : (bs.getD x z39).f1 = 3
        · rw [if_pos h5] at h2
          simp only [Bool.and_eq_true, beq_iff_eq] at h2
          exact absurd (List.eq_nil_of_length_eq_zero h2.1) ht
        · rw [if_neg h5] at h2; cases h2
  have h0 := reached_zero bs hn
  have hf := h.first hcl h0 hn
  refine ⟨h.co.out_nodup _ _ (Nat.le_refl _), h.mem hcl, hf.1, hf.2, h.co.out_len _ _ (Nat.le_refl _), fun p q hp hq h1 h2 h3 h4 => h.ends hcl hen h0 hn p q hp hq h1 h2 h3 h4, fun x hx hr t ht => ?_⟩
  rw [h.mem hcl]
  exact hcl x hx hr t ht
theorem atP_yes {bs : List S39} {row : List Int} (h : RF bs row) : ∀ i, i ≤ row.length → ∀ k, k < i → (atP row bs.length i).getD (row.getD k 0).toNat 0 = (k : Int) + 1
  | 0, _, k, hk => by omega
  | i + 1, hi, k, hk => by
    have m := (h.mem _).1 (getD_mem0 (show i < row.length by omega))
    show ((atP row bs.length i).set (row.getD i 0).toNat ((i : Int) + 1)).getD _ 0 = _
    rw [getD_set _ _ _ _ _ (by rw [atP_length]; omega)]
    by_cases e : k = i
    · subst e; rw [if_pos rfl]
    · have m2 := (h.mem _).1 (getD_mem0 (show k < row.length by omega))
      rw [if_neg (fun q => e (nodup_inj h.nd (by omega) (by omega) (by omega))), atP_yes h i (by omega) k (by omega)]
theorem atP_no {bs : List S39} {row : List Int} (h : RF bs row) : ∀ i, i ≤ row.length → ∀ x : Nat, x < bs.length → (∀ k, k < i → row.getD k 0 ≠ (x : Int)) → (atP row bs.length i).getD x 0 = 0
  | 0, _, x, hx, _ => by simp [atP, List.getD_eq_getElem?_getD, hx]
  | i + 1, hi, x, hx, hk => by
    have m := (h.mem _).1 (getD_mem0 (show i < row.length by omega))
    show ((atP row bs.length i).set (row.getD i 0).toNat ((i : Int) + 1)).getD _ 0 = _
    rw [getD_set _ _ _ _ _ (by rw [atP_length]; omega), if_neg (fun q => hk i (by omega) (by omega)), atP_no h i (by omega) x hx (fun k hk2 => hk k (by omega))]
theorem atP_pos {bs : List S39} {row : List Int} (h : RF bs row) (x : Nat) (hx : x < bs.length) : decide (0 < (atP row bs.length row.length).getD x 0) = (reached bs).getD x false := by
  by_cases m : (x : Int) ∈ row
  · obtain ⟨k, hk, e⟩ := mem_getD m
    have := atP_yes h row.length (Nat.le_refl _) k hk
    rw [e, Int.toNat_natCast] at this
    rw [this]
    have h2 := ((h.mem _).1 m).2.2
    rw [Int.toNat_natCast] at h2
    rw [h2]
    exact decide_eq_true (by omega)
  · have := atP_no h row.length (Nat.le_refl _) x hx (fun k hk e => m (by rw [← e]; exact getD_mem0 hk))
    rw [this]
    have h2 : ¬ (reached bs).getD x false = true := fun q => m ((h.mem _).2 ⟨by omega, by omega, by rwa [Int.toNat_natCast]⟩)
    rw [show (reached bs).getD x false = false by simpa using h2]
    rfl
theorem atP_at {bs : List S39} {row : List Int} (h : RF bs row) (x : Nat) (hx : x < bs.length) (hr : (reached bs).getD x false = true) : ∃ p, p < row.length ∧ row.getD p 0 = (x : Int) ∧ (atP row bs.length row.length).getD x 0 = (p : Int) + 1 := by
  obtain ⟨p, hp, e⟩ := mem_getD ((h.mem (x : Int)).2 ⟨by omega, by omega, by rwa [Int.toNat_natCast]⟩)
  have := atP_yes h row.length (Nat.le_refl _) p hp
  rw [e, Int.toNat_natCast] at this
  exact ⟨p, hp, e, this⟩
end Go.Proofs.Ytidhkicpandmbaa.RwB
