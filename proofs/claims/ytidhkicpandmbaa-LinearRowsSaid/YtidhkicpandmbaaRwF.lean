/- What is reached is closed under the blocks' ways. -/
import Derived.Test.YtidhkicpandmbaaRwE
namespace Go.Proofs.Ytidhkicpandmbaa.RwB
open Go.RowKit Go.Shelf Go.Proofs.YtidhkicpandmbaaW.PrintWords Go.Proofs.YtidhkicpandmbaaW.PrintLast Go.Proofs.YtidhkicpandmbaaW.PrintMore Go.Proofs.Ytidhkicpandmbaa.GF Go.Proofs.Ytidhkicpandmbaa.IrA Go.Proofs.Ytidhkicpandmbaa.RwA Go.Proofs.Ytidhkicpandmbaa.RwB Go.Proofs.Ytidhkicpandmbaa.RwC
set_option linter.unusedVariables false
set_option linter.unusedSimpArgs false
structure Ste (n : Nat) (ts : List Int) (st s : Rst) : Prop where
  len : s.1.length = st.1.length
  up : ∀ x, st.1.getD x false = true → s.1.getD x false = true
  stk : ∀ y ∈ st.2, y ∈ s.2
  all : ∀ t ∈ ts, 0 ≤ t → t < st.1.length → s.1.getD t.toNat false = true
  new : ∀ x : Nat, s.1.getD x false = true → st.1.getD x false = true ∨ (x : Int) ∈ s.2
theorem ste_one (n : Nat) (t : Int) (st : Rst) : Ste n [t] st (IrA.stepT st t) := by
  unfold IrA.stepT
  by_cases h : 0 ≤ t ∧ t < st.1.length
  · rw [if_pos h]
    by_cases g : st.1.getD t.toNat false = true
    · rw [if_pos g]
      exact ⟨rfl, fun _ h => h, fun _ h => h, fun u hu _ _ => by simp at hu; subst hu; exact g, fun _ h => .inl h⟩
    · rw [if_neg g]
      have hl : t.toNat < st.1.length := by omega
      refine ⟨by simp, fun x hx => ?_, fun y hy => List.mem_append_left _ hy, fun u hu _ _ => ?_, fun x hx => ?_⟩
      · show (st.1.set t.toNat true).getD x false = true
        rw [getD_set _ _ _ _ _ hl]; split
        · rfl
        · exact hx
      · simp at hu; subst hu
        show (st.1.set u.toNat true).getD u.toNat false = true
        rw [getD_set _ _ _ _ _ hl, if_pos rfl]
      · have hx : (st.1.set t.toNat true).getD x false = true := hx
        rw [getD_set _ _ _ _ _ hl] at hx
        by_cases e : x = t.toNat
        · right
          show (x : Int) ∈ st.2 ++ [t]
          rw [List.mem_append]; right; simp; omega
        · rw [if_neg e] at hx; exact .inl hx
  · rw [if_neg h]
    exact ⟨rfl, fun _ h => h, fun _ h => h, fun u hu a b => by simp at hu; subst hu; exact absurd ⟨a, b⟩ h, fun _ h => .inl h⟩
theorem ste_all (n : Nat) : ∀ (ts : List Int) (st : Rst), Ste n ts st (ts.foldl IrA.stepT st)
  | [], st => ⟨rfl, fun _ h => h, fun _ h => h, fun t ht => by simp at ht, fun _ h => .inl h⟩
  | t :: ts, st => by
    have h1 := ste_one n t st
    have h2 := ste_all n ts (IrA.stepT st t)
    rw [List.foldl_cons]
    refine ⟨h2.len.trans h1.len, fun x hx => h2.up x (h1.up x hx), fun y hy => h2.stk y (h1.stk y hy), fun u hu a b => ?_, fun x hx => ?_⟩
    · rcases List.mem_cons.1 hu with rfl | hu
      · exact h2.up _ (h1.all u (by simp) a b)
      · exact h2.all u hu a (by rw [h1.len]; exact b)
    · rcases h2.new x hx with h | h
      · rcases h1.new x h with g | g
        · exact .inl g
        · exact .inr (h2.stk _ g)
      · exact .inr h
def Cl (bs : List S39) (st : Rst) : Prop := ∀ x : Nat, x < bs.length → st.1.getD x false = true → (x : Int) ∈ st.2 ∨ ∀ t ∈ ToB bs x, 0 ≤ t → t < bs.length → st.1.getD t.toNat false = true
theorem Cl.turn {bs : List S39} {st : Rst} (h : Cl bs st) (hl : st.1.length = bs.length) (hg : ∀ x ∈ st.2, 0 ≤ x ∧ x < bs.length) (hne : st.2 ≠ []) : Cl bs (IrA.turn bs st) := by
  unfold IrA.turn
  have s := ste_all bs.length (bs.getD (st.2.getLastD 0).toNat z39).f3 (st.1, st.2.dropLast)
  intro x hx hm
  have hlast : st.2.getLastD 0 = st.2.getLast hne := by rw [List.getLastD_eq_getLast?, List.getLast?_eq_some_getLast hne]; rfl
  rcases s.new x hm with g | g
  · rcases h x hx g with k | k
    · rw [← List.dropLast_concat_getLast hne, List.mem_append] at k
      rcases k with k | k
      · exact .inl (s.stk _ k)
      · right
        simp at k
        intro t ht a b
        refine s.all t ?_ a (by show t < (st.1.length : Int); omega)
        rw [hlast, ← k, Int.toNat_natCast]
        exact ht
    · exact .inr fun t ht a b => s.up _ (k t ht a b)
  · exact .inl g
theorem fin_closed (bs : List S39) : ∀ (k : Nat) (st : Rst), meas st ≤ k → Gd bs.length st → Cl bs st → ∀ x : Nat, x < bs.length → (fin bs k st).getD x false = true → ∀ t ∈ ToB bs x, 0 ≤ t → t < bs.length → (fin bs k st).getD t.toNat false = true
  | 0, st, hm, hg, hc, x, hx, hr => by
    have : st.2 = [] := by unfold meas at hm; exact List.eq_nil_of_length_eq_zero (by omega)
    rcases hc x hx hr with h | h
    · rw [this] at h; simp at h
    · exact h
  | k + 1, st, hm, hg, hc, x, hx, hr => by
    simp only [fin] at hr ⊢
    by_cases he : st.2 = []
    · rw [if_pos he] at hr ⊢
      rcases hc x hx hr with h | h
      · rw [he] at h; simp at h
      · exact h
    · rw [if_neg he] at hr ⊢
      have h1 := meas_turn bs he
      exact fin_closed bs k _ (by omega) (hg.turn (bs := bs)) (hc.turn hg.len hg.row he) x hx hr
theorem fin_up (bs : List S39) : ∀ (k : Nat) (st : Rst) (x : Nat), st.1.getD x false = true → (fin bs k st).getD x false = true
  | 0, _, _, h => h
  | k + 1, st, x, h => by
    simp only [fin]
    split
    · exact h
    · exact fin_up bs k _ x ((ste_all bs.length _ (st.1, st.2.dropLast)).up x h)
theorem reached_closed (bs : List S39) (x : Nat) (hx : x < bs.length) (hr : (reached bs).getD x false = true) (t : Int) (ht : t ∈ ToB bs x) (h0 : 0 ≤ t) (h1 : t < bs.length) : (reached bs).getD t.toNat false = true := by
  unfold reached at hr ⊢
  rw [if_neg (by omega)] at hr ⊢
  have hg := gd_start (n := bs.length) (by omega)
  refine fin_closed bs _ _ hg.m hg ?_ x hx hr t ht h0 h1
  intro y hy hm
  left
  have hm : ((List.replicate bs.length false).set 0 true).getD y false = true := hm
  rw [getD_set _ _ _ _ _ (by simp; omega)] at hm
  by_cases e : y = 0
  · subst e; simp
  · rw [if_neg e] at hm; simp [List.getD_eq_getElem?_getD, List.getElem?_replicate, hy] at hm
theorem reached_zero (bs : List S39) (h : 0 < bs.length) : (reached bs).getD 0 false = true := by
  unfold reached
  rw [if_neg (by omega)]
  exact fin_up bs _ _ 0 (by show ((List.replicate bs.length false).set 0 true).getD 0 false = true; rw [getD_set _ _ _ _ _ (by simpa using h), if_pos rfl])
end Go.Proofs.Ytidhkicpandmbaa.RwB
