/- The plain facts of layer 5: which images may be; the sum of bytes, made either way; an image's bytes, put together either way. -/
import Derived.Test.YtbalpmpaccfpiaaWrite
namespace Go.Proofs.Ytbalpmpaccfpiaa.Pure
open Go.RowKit Go.Proofs.Ytbalpmpaccfpiaa.PImageReads Go.Proofs.YtbalpmpaccfpiaaW.PrintWords Go.Proofs.YtbalpmpaccfpiaaW.PrintLast
set_option linter.unusedVariables false

/-- May an image be? -/
def May (C D : ByteArray) (g e f : Int) : Prop :=
  4 ≤ C.size ∧ C.size ≤ 1048576 ∧ C.size % 4 = 0 ∧ 0 ≤ g ∧ g ≤ 65536 ∧ (D.size : Int) ≤ g ∧ 0 ≤ e ∧ Int.tmod e 4 = 0 ∧ e < C.size ∧ 0 ≤ f ∧ f ≤ 65536
instance (C D : ByteArray) (g e f : Int) : Decidable (May C D g e f) := by unfold May; infer_instance

theorem may (C D : ByteArray) (g e f : Int) : crucibleref04_May.f C D g e f = some (decide (May C D g e f)) := by
  by_cases h : May C D g e f
  · rw [decide_eq_true h]
    obtain ⟨h1, h2, h3, h4, h5, h6, h7, h8, h9, h10, h11⟩ := h
    unfold crucibleref04_May.f
    rw [if_pos (by omega), if_pos (by omega), if_pos h4, if_pos h5, if_pos h7, if_pos h8, if_pos (by omega), if_pos h6, if_pos h9, if_pos h10, decide_eq_true h11]
  · rw [decide_eq_false h]
    have hh : ∀ (_ : (C.size : Int) ≥ 4) (_ : (C.size : Int) ≤ 1048576) (_ : g ≥ 0) (_ : g ≤ 65536) (_ : e ≥ 0) (_ : Int.tmod e 4 = 0) (_ : (C.size : Int) % 4 = 0) (_ : (D.size : Int) ≤ g) (_ : e < (C.size : Int)) (_ : f ≥ 0), ¬ f ≤ 65536 :=
      fun a1 a2 a3 a4 a5 a6 a7 a8 a9 a10 a11 => h ⟨by omega, by omega, by omega, a3, a4, a8, a5, a6, a9, a10, a11⟩
    clear h
    unfold crucibleref04_May.f
    repeat' split
    all_goals first | rfl | (rw [decide_eq_false (hh (by assumption) (by assumption) (by assumption) (by assumption) (by assumption) (by assumption) (by assumption) (by assumption) (by assumption) (by assumption))])

theorem check (C D : ByteArray) (g e f : Int) : machine_Check.f 3 C D g e f = some (if May C D g e f then 0 else 1) := by
  by_cases h : May C D g e f
  · rw [if_pos h]
    obtain ⟨h1, h2, h3, h4, h5, h6, h7, h8, h9, h10, h11⟩ := h
    have e1 : (((C.size : Int) % 4) != 0) = false := by rw [bne_eq_false_iff_eq]; omega
    unfold machine_Check.f
    rw [if_neg (by omega), if_neg (by omega), e1]
    simp only [machine_Check.j0, machine_Check.j1, machine_Check.j2, Bool.false_eq_true, if_false]
    rw [if_neg (by omega), if_neg (by omega), decide_eq_false (by omega : ¬ (D.size : Int) > g)]
    simp only [Bool.false_eq_true, if_false]
    rw [if_neg (by omega), if_pos h8, decide_eq_false (by omega : ¬ e ≥ (C.size : Int))]
    simp only [Bool.false_eq_true, if_false]
    rw [if_neg (by omega), if_neg (by omega)]
  · rw [if_neg h]
    unfold machine_Check.f
    by_cases a1 : (C.size : Int) < 4
    · rw [if_pos a1]; simp [machine_Check.j0]
    rw [if_neg a1]
    by_cases a2 : (C.size : Int) > 1048576
    · rw [if_pos a2]; simp [machine_Check.j0]
    rw [if_neg a2]
    by_cases a3 : (C.size : Int) % 4 = 0
    · rw [bne_eq_false_iff_eq.2 a3]
      simp only [machine_Check.j0, machine_Check.j1, machine_Check.j2, Bool.false_eq_true, if_false, if_true]
      repeat' split
      all_goals first | rfl | skip
      all_goals (exfalso; apply h; clear h; unfold May; generalize Int.tmod e 4 = m at *; (try simp only [decide_eq_true_eq] at *); omega)
    · rw [bne_iff_ne.2 a3]; simp [machine_Check.j0]

/-- So many bytes from a place on, added. -/
def tot (s : ByteArray) : Int → Nat → Int
  | _, 0 => 0
  | i, d + 1 => bt s i + tot s (i + 1) d
theorem tot_nonneg (s : ByteArray) : ∀ (d : Nat) (i : Int), 0 ≤ tot s i d
  | 0, _ => by simp [tot]
  | d + 1, i => by have := tot_nonneg s d (i + 1); have := bt_range s i; simp [tot]; omega

theorem rsum (s : ByteArray) (hs : s.size ≤ 9223372036854775807) : ∀ (d k : Nat) (x i : Int), 0 ≤ i → i + d = s.size → d < k → 0 ≤ x → x < 4294967296 → crucibleref05_sum.l0 k s x i = some ((x + tot s i d) % 4294967296)
  | 0, k, x, i, h0, h1, h2, h3, h4 => by
    obtain ⟨k, rfl⟩ : ∃ m, k = m + 1 := ⟨k - 1, by omega⟩
    simp only [crucibleref05_sum.l0, tot]
    rw [if_neg (by omega)]
    congr 1
    omega
  | d + 1, k, x, i, h0, h1, h2, h3, h4 => by
    obtain ⟨k, rfl⟩ : ∃ m, k = m + 1 := ⟨k - 1, by omega⟩
    have hb := bt_range s i
    have hw : wrap64 (i + 1) = i + 1 := by unfold wrap64; omega
    simp only [crucibleref05_sum.l0, tot]
    rw [if_pos (by omega), if_pos h0, hw, rsum s hs d k _ (i + 1) (by omega) (by omega) (by omega) (by omega) (by omega)]
    congr 1
    omega

theorem isum (s : ByteArray) (hs : s.size ≤ 9223372036854775807) (L : List ByteArray) (n idx : Int) : ∀ (d k : Nat) (x i : Int), 0 ≤ i → i + d = s.size → 0 ≤ x → x < 4294967296 →
    image_sum.l1 (k + d + 1) x s L n idx (s.size : Int) i = image_sum.l0 k ((x + tot s i d) % 4294967296) L n (wrap64 (idx + 1))
  | 0, k, x, i, h0, h1, h3, h4 => by
    simp only [image_sum.l1, tot]
    rw [if_neg (by omega)]
    congr 1
    omega
  | d + 1, k, x, i, h0, h1, h3, h4 => by
    have hb := bt_range s i
    have hw : wrap64 (i + 1) = i + 1 := by unfold wrap64; omega
    rw [show k + (d + 1) + 1 = (k + d + 1) + 1 by omega]
    generalize hm : k + d + 1 = m
    simp only [image_sum.l1, tot]
    rw [if_pos (by omega), if_pos h0, if_pos (by omega), hw, ← hm, isum s hs L n idx d k _ (i + 1) (by omega) (by omega) (by omega) (by omega)]
    congr 1
    omega

/-- The sum of two texts' bytes, either way. -/
theorem sums (C D : ByteArray) (hC : C.size ≤ 9223372036854775807) (hD : D.size ≤ 9223372036854775807) :
    ∃ k s t u, image_sum.f k [C, D] = some u ∧ crucibleref05_sum.f k C = some s ∧ crucibleref05_sum.f k D = some t ∧ u = (s + t) % 4294967296 ∧ 0 ≤ u ∧ u ≤ 4294967295 := by
  have w0 : wrap64 (0 + 1) = 1 := by unfold wrap64; omega
  have w1 : wrap64 (1 + 1) = 2 := by unfold wrap64; omega
  have c := tot_nonneg C C.size 0
  have d := tot_nonneg D D.size 0
  refine ⟨(((1 + D.size + 1) + 1) + C.size + 1) + 1, (0 + tot C 0 C.size) % 4294967296, (0 + tot D 0 D.size) % 4294967296, ((0 + tot C 0 C.size) % 4294967296 + tot D 0 D.size) % 4294967296, ?_, ?_, ?_, by omega, by omega, by omega⟩
  · unfold image_sum.f
    simp only [image_sum.l0, List.length_cons, List.length_nil]
    rw [if_pos (by omega), if_pos (by omega), if_pos (by omega)]
    rw [show rdOf ByteArray.empty [C, D] 0 = C from rfl, isum C hC [C, D] _ 0 C.size _ 0 0 (by omega) (by omega) (by omega) (by omega), w0]
    simp only [image_sum.l0]
    rw [if_pos (by omega), if_pos (by omega), if_pos (by simp)]
    rw [show rdOf ByteArray.empty [C, D] 1 = D from rfl, isum D hD [C, D] _ 1 D.size _ _ 0 (by omega) (by omega) (by omega) (by omega), w1]
    simp only [image_sum.l0]
    rw [if_neg (by omega)]
  · exact rsum C hC C.size _ 0 0 (by omega) (by omega) (by omega) (by omega) (by omega)
  · exact rsum D hD D.size _ 0 0 (by omega) (by omega) (by omega) (by omega) (by omega)

end Go.Proofs.Ytbalpmpaccfpiaa.Pure
