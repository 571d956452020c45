/- An image's bytes tell its parts. -/
import Derived.Test.YtbalpmpaccfpiaaLaw2
namespace Go.Proofs.Ytbalpmpaccfpiaa.Parse
open Go.RowKit Go.Proofs.Ytbalpmpaccfpiaa.Number Go.Proofs.Ytbalpmpaccfpiaa.Write Go.Proofs.YtbalpmpaccfpiaaW.PrintWords
set_option linter.unusedVariables false

theorem le4_range (n : Int) (i : Nat) : 0 ≤ (le4 n).getD i 0 ∧ (le4 n).getD i 0 ≤ 255 := by
  match i with
  | 0 => simp [le4]; omega
  | 1 => simp [le4]; omega
  | 2 => simp [le4]; omega
  | 3 => simp [le4]; omega
  | i + 4 => simp [le4]

theorem img_W (C D : ByteArray) (g e f u : Int) (k : Nat) (hk : k < 6) :
    W (img C D g e f u) (4 + 4 * (k : Int)) = ([(C.size : Int) % 4294967296, (D.size : Int) % 4294967296, g % 4294967296, e % 4294967296, f % 4294967296, u].getD k 0) % 4294967296 := by
  generalize hns : [(C.size : Int) % 4294967296, (D.size : Int) % 4294967296, g % 4294967296, e % 4294967296, f % 4294967296, u] = ns
  have hlen : ns.length = 6 := by rw [← hns]; rfl
  have key : ∀ i : Nat, i < 4 → bt (img C D g e f u) ((4 + 4 * k + i : Nat) : Int) = (le4 (ns.getD k 0)).getD i 0 := by
    intro i hi
    unfold img
    rw [ByteArray.append_assoc, hns]
    have hl := ahead_length ns 6 (by omega)
    have hg : ∀ hk', (Write.ahead ns 6)[4 + 4 * k + i]'hk' = (le4 (ns.getD k 0)).getD i 0 := by
      intro hk'
      subst hns
      match k, hk, i, hi with
      | 0, _, 0, _ | 0, _, 1, _ | 0, _, 2, _ | 0, _, 3, _ => rfl
      | 1, _, 0, _ | 1, _, 1, _ | 1, _, 2, _ | 1, _, 3, _ => rfl
      | 2, _, 0, _ | 2, _, 1, _ | 2, _, 2, _ | 2, _, 3, _ => rfl
      | 3, _, 0, _ | 3, _, 1, _ | 3, _, 2, _ | 3, _, 3, _ => rfl
      | 4, _, 0, _ | 4, _, 1, _ | 4, _, 2, _ | 4, _, 3, _ => rfl
      | 5, _, 0, _ | 5, _, 1, _ | 5, _, 2, _ | 5, _, 3, _ => rfl
    rw [Reads.bt_nums _ _ (4 + 4 * k + i) (by omega) (by rw [hg]; exact le4_range _ _), hg]
  rw [W_eq]
  have k0 := key 0 (by omega)
  have k1 := key 1 (by omega)
  have k2 := key 2 (by omega)
  have k3 := key 3 (by omega)
  rw [show (4 : Int) + 4 * (k : Int) + 1 = ((4 + 4 * k + 1 : Nat) : Int) by omega, show (4 : Int) + 4 * (k : Int) + 2 = ((4 + 4 * k + 2 : Nat) : Int) by omega, show (4 : Int) + 4 * (k : Int) + 3 = ((4 + 4 * k + 3 : Nat) : Int) by omega, show (4 : Int) + 4 * (k : Int) = ((4 + 4 * k + 0 : Nat) : Int) by omega, k0, k1, k2, k3]
  generalize ns.getD k 0 = n
  simp [le4]
  omega

theorem ext_mid (H C D : ByteArray) (hh : H.size = 28) : (H ++ C ++ D).extract 28 (28 + C.size) = C := by
  apply ByteArray.ext
  simp only [ByteArray.data_extract, ByteArray.data_append]
  have h1 : H.data.size = 28 := hh
  have h2 : C.data.size = C.size := rfl
  rw [Array.append_assoc, ← h1, Array.extract_append_right, Array.extract_append, ← h2]
  simp

theorem ext_end (H C D : ByteArray) (hh : H.size = 28) : (H ++ C ++ D).extract (28 + C.size) (H ++ C ++ D).size = D := by
  apply ByteArray.ext
  simp only [ByteArray.data_extract, ByteArray.data_append, ByteArray.size_append]
  have h1 : (H.data ++ C.data).size = 28 + C.size := by rw [Array.size_append]; exact congrArg (· + C.size) hh
  rw [hh, ← h1]
  have h2 : D.data.size = D.size := rfl
  rw [Array.extract_append_right, ← h2]
  simp

theorem img_parts (C D : ByteArray) (g e f u : Int) (hm : Pure.May C D g e f) :
    RefRead.code (img C D g e f u) = C ∧ RefRead.data (img C D g e f u) = D ∧ W (img C D g e f u) 12 = g ∧ W (img C D g e f u) 16 = e ∧ W (img C D g e f u) 20 = f ∧ W (img C D g e f u) 4 = C.size ∧ (img C D g e f u).size = 28 + C.size + D.size := by
  obtain ⟨m1, m2, m3, m4, m5, m6, m7, m8, m9, m10, m11⟩ := hm
  have e0 := img_W C D g e f u 0 (by omega)
  have e2 := img_W C D g e f u 2 (by omega)
  have e3 := img_W C D g e f u 3 (by omega)
  have e4 := img_W C D g e f u 4 (by omega)
  simp at e0 e2 e3 e4
  have w4 : W (img C D g e f u) 4 = C.size := by rw [e0]; omega
  have hl := ahead_length [(C.size : Int) % 4294967296, (D.size : Int) % 4294967296, g % 4294967296, e % 4294967296, f % 4294967296, u] 6 (by simp)
  have hh : (strOfNums (Write.ahead [(C.size : Int) % 4294967296, (D.size : Int) % 4294967296, g % 4294967296, e % 4294967296, f % 4294967296, u] 6)).size = 28 := by
    revert hl
    generalize Write.ahead [(C.size : Int) % 4294967296, (D.size : Int) % 4294967296, g % 4294967296, e % 4294967296, f % 4294967296, u] 6 = L
    intro hl
    simp [strOfNums, ByteArray.size, hl]
  refine ⟨?_, ?_, by omega, by omega, by omega, w4, ?_⟩
  · unfold RefRead.code
    rw [w4, show (28 + (C.size : Int)).toNat = 28 + C.size by omega]
    unfold img
    revert hh
    generalize strOfNums (Write.ahead [(C.size : Int) % 4294967296, (D.size : Int) % 4294967296, g % 4294967296, e % 4294967296, f % 4294967296, u] 6) = H
    intro hh
    exact ext_mid H C D hh
  · unfold RefRead.data
    rw [w4, show (28 + (C.size : Int)).toNat = 28 + C.size by omega]
    unfold img
    revert hh
    generalize strOfNums (Write.ahead [(C.size : Int) % 4294967296, (D.size : Int) % 4294967296, g % 4294967296, e % 4294967296, f % 4294967296, u] 6) = H
    intro hh
    exact ext_end H C D hh
  · unfold img
    rw [ByteArray.size_append, ByteArray.size_append, hh]


open Go.Proofs.Ytbalpmpaccfpiaa.Law1 Go.Proofs.Ytbalpmpaccfpiaa.Law2
/-- What was told with no complaint is told back, and its parts are the image's. -/
theorem tells_good (C D s : ByteArray) (g e f : Int) (hC : C.size ≤ 9223372036854775807) (hD : D.size ≤ 9223372036854775807) (h : told C D g e f = (s, 0)) :
    Law2.Good s ∧ RefRead.code s = C ∧ RefRead.data s = D ∧ W s 12 = g ∧ W s 16 = e ∧ W s 20 = f ∧ 28 ≤ s.size ∧ (s.size : Int) ≤ 1048576 := by
  obtain ⟨_, _, u, hu⟩ := told_both C D g e f hC hD
  have ha := hu.symm.trans h
  obtain ⟨hm, hi, _, _⟩ := ans_tells ha
  have hl : ¬ 1048576 < 28 + (C.size : Int) + D.size := by
    intro hl
    unfold ans at ha
    rw [if_pos hm, if_pos hl] at ha
    simp at ha
  obtain ⟨p1, p2, p3, p4, p5, p6, p7⟩ := img_parts C D g e f u hm
  rw [← hi] at p1 p2 p3 p4 p5 p6 p7
  refine ⟨⟨by omega, by omega, by omega, ?_⟩, p1, p2, p3, p4, p5, by omega, by omega⟩
  rw [p1, p2, p3, p4, p5, h]

/-- Another text is read as another image, or as none. -/
theorem other (C D s s' : ByteArray) (g e f : Int) (hs : s'.size = s.size) (hne : s' ≠ s) (hC : C.size ≤ 9223372036854775807) (hD : D.size ≤ 9223372036854775807) (h : told C D g e f = (s, 0)) :
    (∃ c, c ≠ 0 ∧ Read2 s' ⟨#[]⟩ ⟨#[]⟩ 0 0 0 c) ∨
    ∃ C' D' g' e' f', Read2 s' C' D' g' e' f' 0 ∧ told C' D' g' e' f' = (s', 0) ∧ C'.size ≤ 9223372036854775807 ∧ D'.size ≤ 9223372036854775807 ∧ ¬ (C' = C ∧ D' = D ∧ g' = g ∧ e' = e ∧ f' = f) := by
  have hs28 := tells_good C D s g e f hC hD h
  by_cases hg : Law2.Good s'
  · refine .inr ⟨_, _, _, _, _, good s' hg, hg.2.2.2, by unfold RefRead.code; simp; omega, by unfold RefRead.data; simp; omega, ?_⟩
    rintro ⟨q1, q2, q3, q4, q5⟩
    have := hg.2.2.2
    rw [q1, q2, q3, q4, q5, h] at this
    simp only [Prod.mk.injEq, and_true] at this
    exact hne this.symm
  · exact .inl (bad s' (by omega) hg)

/-- A complaint is told with no bytes. -/
theorem tells_none (C D s : ByteArray) (g e f c : Int) (hC : C.size ≤ 9223372036854775807) (hD : D.size ≤ 9223372036854775807) (h : told C D g e f = (s, c)) (hc : c ≠ 0) : s.size = 0 := by
  obtain ⟨_, _, u, hu⟩ := told_both C D g e f hC hD
  have ha := hu.symm.trans h
  unfold ans at ha
  by_cases hm : Pure.May C D g e f
  · rw [if_pos hm] at ha
    by_cases hl : 1048576 < 28 + (C.size : Int) + D.size
    · rw [if_pos hl] at ha
      simp only [Prod.mk.injEq] at ha
      rw [← ha.1]; rfl
    · rw [if_neg hl] at ha
      simp only [Prod.mk.injEq] at ha
      exact absurd ha.2.symm hc
  · rw [if_neg hm] at ha
    simp only [Prod.mk.injEq] at ha
    rw [← ha.1]; rfl

end Go.Proofs.Ytbalpmpaccfpiaa.Parse
