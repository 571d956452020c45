/- Scopes: the plain law: what both tell of a name. -/
import Derived.Test.YtojmhcmgnndfgaaScK
namespace Go.Proofs.Ytojmhcmgnndfgaa.Sc
open Go.RowKit Go.Proofs.YtojmhcmgnndfgaaW.PrintWords
set_option linter.unusedVariables false
set_option linter.unusedSimpArgs false

def ents (i : Nat) (b : Blk) : List Ent := b.map fun p => ((i : Int), p.1, p.2)
def flatFrom : Nat → List Blk → List Ent
  | _, [] => []
  | i, b :: r => ents i b ++ flatFrom (i + 1) r
def flat (st : List Blk) : List Ent := flatFrom 1 st
theorem flatFrom_snoc : ∀ (st : List Blk) (i : Nat) (b : Blk), flatFrom i (st ++ [b]) = flatFrom i st ++ ents (i + st.length) b
  | [], i, b => by simp [flatFrom]
  | a :: st, i, b => by
    show ents i a ++ flatFrom (i + 1) (st ++ [b]) = _
    rw [flatFrom_snoc st (i + 1) b, ← List.append_assoc]
    rw [show i + 1 + st.length = i + (a :: st).length by simp; omega]
    rfl
theorem flat_snoc (st : List Blk) (b : Blk) : flat (st ++ [b]) = flat st ++ ents (1 + st.length) b := flatFrom_snoc st 1 b
theorem flatFrom_lt : ∀ (st : List Blk) (i : Nat), ∀ e ∈ flatFrom i st, e.1 < ((i + st.length : Nat) : Int)
  | [], i, e, h => by simp [flatFrom] at h
  | a :: st, i, e, h => by
    have h : e ∈ ents i a ++ flatFrom (i + 1) st := h
    rcases List.mem_append.1 h with h | h
    · obtain ⟨p, _, rfl⟩ := List.mem_map.1 h
      simp
      omega
    · have := flatFrom_lt st (i + 1) e h
      simp only [List.length_cons]
      omega
theorem flat_lt (st : List Blk) : ∀ e ∈ flat st, e.1 < ((1 + st.length : Nat) : Int) := flatFrom_lt st 1

/-- A scope as both hold it: its blocks, not too many for a count j of acts; in a block each name once. -/
structure Ok (st : List Blk) (j : Nat) : Prop where
  one : 1 ≤ st.length
  len : st.length ≤ j + 1
  all : (flat st).length ≤ j
  nd : ∀ b ∈ st, (b.map (·.1)).Nodup
theorem ok_new : Ok [[]] 0 := ⟨by simp, by simp, by simp [flat, flatFrom, ents], by simp⟩
theorem split (st : List Blk) (h : 1 ≤ st.length) : st = st.take (st.length - 1) ++ [st.getD (st.length - 1) []] := by
  have : st.take (st.length - 1 + 1) = _ := List.take_succ_eq_append_getElem (l := st) (i := st.length - 1) (by omega)
  rw [List.getD_eq_getElem?_getD, List.getElem?_eq_getElem (by omega), Option.getD_some, ← this, List.take_of_length_le (by omega)]
theorem flat_split (st : List Blk) (h : 1 ≤ st.length) : flat st = flat (st.take (st.length - 1)) ++ ents st.length (st.getD (st.length - 1) []) := by
  have e := flat_snoc (st.take (st.length - 1)) (st.getD (st.length - 1) [])
  rw [← split st h] at e
  rw [e, List.length_take, Nat.min_eq_left (by omega), show 1 + (st.length - 1) = st.length by omega]

theorem get_mem : ∀ (b : Blk) (s : ByteArray), (get b s).2 = true ↔ s ∈ b.map (·.1)
  | [], s => by simp [get]
  | p :: r, s => by
    unfold get
    by_cases h : p.1 = s
    · rw [if_pos h]; simp [h]
    · rw [if_neg h, get_mem r s]
      simp only [List.map_cons, List.mem_cons]
      constructor
      · exact .inr
      · rintro (h2 | h2)
        · exact absurd h2.symm h
        · exact h2
theorem get_none : ∀ (b : Blk) (s : ByteArray), (get b s).2 = false → get b s = (0, false)
  | [], s, _ => rfl
  | p :: r, s, h => by
    unfold get at h ⊢
    by_cases h2 : p.1 = s
    · rw [if_pos h2] at h; cases h
    · rw [if_neg h2] at h ⊢
      exact get_none r s h
theorem rfR_app : ∀ (x y : List Ent) (s : ByteArray), rfR (x ++ y) s = if (rfR x s).2 = true then rfR x s else rfR y s
  | [], y, s => by simp [rfR]
  | e :: x, y, s => by
    have ih := rfR_app x y s
    show (if e.2.1 = s then (e.2.2, true) else rfR (x ++ y) s) = if (if e.2.1 = s then (e.2.2, true) else rfR x s).2 = true then (if e.2.1 = s then (e.2.2, true) else rfR x s) else rfR y s
    by_cases h : e.2.1 = s
    · simp [h]
    · rw [if_neg h, if_neg h, ih]
theorem rfR_ents (i : Nat) : ∀ (b : Blk) (s : ByteArray), (b.map (·.1)).Nodup → rfR (ents i b).reverse s = get b s
  | [], s, _ => rfl
  | p :: r, s, h => by
    have h' := List.nodup_cons.1 (show (p.1 :: r.map (·.1)).Nodup from h)
    have e : (ents i (p :: r)).reverse = (ents i r).reverse ++ [((i : Int), p.1, p.2)] := by simp [ents]
    rw [e, rfR_app, rfR_ents i r s h'.2]
    show _ = if p.1 = s then (p.2, true) else get r s
    by_cases hs : p.1 = s
    · rw [if_pos hs]
      have : (get r s).2 = false := by
        rw [← Bool.not_eq_true, get_mem]
        rw [← hs]
        exact h'.1
      rw [if_neg (by simp [this])]
      simp [rfR, hs]
    · rw [if_neg hs]
      by_cases hg : (get r s).2 = true
      · rw [if_pos hg]
      · rw [if_neg hg, get_none r s (by simpa using hg)]
        simp [rfR, hs]
theorem rf_pf_aux (s : ByteArray) : ∀ (n : Nat) (st : List Blk), st.length = n → (∀ b ∈ st, (b.map (·.1)).Nodup) → rf (flat st) s = pf st s
  | 0, st, h, _ => by
    obtain rfl : st = [] := List.eq_nil_of_length_eq_zero h
    rfl
  | n + 1, st, h, hn => by
    have hsp := split st (by omega)
    have hfl := flat_split st (by omega)
    have ih := rf_pf_aux s n (st.take (st.length - 1)) (by rw [List.length_take]; omega) (fun b hb => hn b (List.mem_of_mem_take hb))
    have hb : ((st.getD (st.length - 1) []).map (·.1)).Nodup := hn _ (getD_mem _ _ _ (by omega))
    unfold rf at ih ⊢
    rw [hfl, List.reverse_append, rfR_app, rfR_ents _ _ _ hb, ih]
    unfold pf
    conv => rhs; rw [hsp, List.reverse_append]
    show _ = (if (get (st.getD (st.length - 1) []) s).2 = true then ((get (st.getD (st.length - 1) []) s).1, true) else _)
    by_cases hg : (get (st.getD (st.length - 1) []) s).2 = true
    · rw [if_pos hg, if_pos hg]
      exact Prod.ext rfl hg
    · rw [if_neg hg, if_neg hg]
      rfl
theorem rf_pf {st : List Blk} {j : Nat} (h : Ok st j) (s : ByteArray) : rf (flat st) s = pf st s := rf_pf_aux s _ st rfl h.nd
end Go.Proofs.Ytojmhcmgnndfgaa.Sc
