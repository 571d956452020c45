/- Scopes: each act of each, in one form. -/
import Derived.Test.YtojmhcmgnndfgaaScM
namespace Go.Proofs.Ytojmhcmgnndfgaa.Sc
open Go.RowKit Go.Proofs.YtojmhcmgnndfgaaW.PrintWords
set_option linter.unusedVariables false
set_option linter.unusedSimpArgs false
variable {w : World} {B C g1 g2 j1 j2 : Nat} {st1 st2 : List Blk}

abbrev P1 (g : Nat) : Value := .pointer (some ⟨g, 0, none⟩)
theorem tw_p {w w' : World} (t : Tw w B C g1 g2 st1 st2 j1 j2) {st : List Blk} {j : Nat} (p : ∃ v ms, PS w' B g1 v ms st) (o : Ok st j) (b : Below B w w') (f : Fr GP w w') : Tw w' B C g1 g2 st st2 j j2 := by
  obtain ⟨v, r⟩ := t.r
  exact ⟨p, ⟨v, r.fr f⟩, o, t.o2, t.hBC, Nat.le_trans t.hC b.size⟩
theorem tw_r {w w' : World} (t : Tw w B C g1 g2 st1 st2 j1 j2) {st : List Blk} {j : Nat} (r : ∃ v, RS w' C g2 v (flat st) st.length) (o : Ok st j) (b : Below C w w') (f : Fr GR w w') : Tw w' B C g1 g2 st1 st j1 j := by
  obtain ⟨v, ms, p⟩ := t.p
  exact ⟨⟨v, ms, p.fr f⟩, r, t.o1, o, t.hBC, Nat.le_trans t.hC b.size⟩

theorem p_dcl (t : Aside0 (Tw w B C g1 g2 st1 st2 j1 j2)) (s : ByteArray) (x : Int) (hj : j1 ≤ 8796093022000) :
    Calls Try.prog 15 #[P1 g1, .string s, .int .i64 x] w fun e w' => e = .returned (.int .i64 (dclE st1 s)) ∧ Aside0 (Tw w' B C g1 g2 (dcl st1 s x) st2 (j1 + 1) j2) ∧ Aside0 (Mv B C w w') := by
  obtain ⟨v, ms, p⟩ := t.out.p
  have o := t.out.o1
  have o' := ok_dcl o s x
  have h1 := o.one
  have h2 := o.len
  unfold dclE dcl at *
  cases hk : (get (lst st1) s).2
  · rw [hk] at o'
    exact (declare_new ⟨p⟩ s x h1 (by omega) hk).mono fun e w' ⟨he, v', ms', p', b, f⟩ => ⟨he, ⟨tw_p t.out ⟨v', ms', p'⟩ o' b f⟩, ⟨.p b f⟩⟩
  · rw [hk] at o'
    exact (declare_known ⟨p⟩ s x h1 (by omega) hk).mono fun e w' ⟨he, v', ms', p', b, f⟩ => ⟨he, ⟨tw_p t.out ⟨v', ms', p'⟩ o' b f⟩, ⟨.p b f⟩⟩
theorem p_ent (t : Aside0 (Tw w B C g1 g2 st1 st2 j1 j2)) (hj : j1 ≤ 8796093022000) :
    Calls Try.prog 13 #[P1 g1] w fun e w' => e = .returned (.tuple #[]) ∧ Aside0 (Tw w' B C g1 g2 (st1 ++ [[]]) st2 (j1 + 1) j2) ∧ Aside0 (Mv B C w w') := by
  obtain ⟨v, ms, p⟩ := t.out.p
  have o := t.out.o1
  have h1 := o.one
  have h2 := o.len
  exact (enter ⟨p⟩ t.out.hB (by omega) (by omega)).mono fun e w' ⟨he, v', ms', p', b, f⟩ => ⟨he, ⟨tw_p t.out ⟨v', ms', p'⟩ (ok_ent o) b f⟩, ⟨.p b f⟩⟩
theorem p_lv (t : Aside0 (Tw w B C g1 g2 st1 st2 j1 j2)) (hj : j1 ≤ 8796093022000) :
    Calls Try.prog 14 #[P1 g1] w fun e w' => e = .returned (.int .i64 (lvE st1)) ∧ Aside0 (Tw w' B C g1 g2 (lv st1) st2 (j1 + 1) j2) ∧ Aside0 (Mv B C w w') := by
  obtain ⟨v, ms, p⟩ := t.out.p
  have o := t.out.o1
  have o' := ok_lv o
  have h1 := o.one
  have h2 := o.len
  unfold lvE lv at *
  by_cases hk : st1.length < 2
  · rw [if_pos hk] at o' ⊢
    rw [if_pos hk]
    have hd := depth p
    rw [show st1.length = 1 by omega] at hd
    exact (leave_1 ⟨hd⟩).mono fun e w' ⟨he, hw⟩ => ⟨he, ⟨tw_p t.out ⟨v, ms, hw ▸ p⟩ o' (hw ▸ Below.refl _ _) (hw ▸ Fr.refl _ _)⟩, ⟨hw ▸ Mv.refl _ _ _⟩⟩
  · rw [if_neg hk] at o' ⊢
    rw [if_neg hk]
    exact (leave ⟨p⟩ (by omega) (by omega)).mono fun e w' ⟨he, v', ms', p', b, f⟩ => ⟨he, ⟨tw_p t.out ⟨v', ms', p'⟩ o' b f⟩, ⟨.p b f⟩⟩
theorem p_find (t : Aside0 (Tw w B C g1 g2 st1 st2 j1 j2)) (s : ByteArray) (hj : j1 ≤ 8796093022000) :
    Calls Try.prog 10 #[P1 g1, .string s] w fun e w' => e = .returned (.tuple #[.int .i64 (pf st1 s).1, .bool (pf st1 s).2]) ∧ w = w' := by
  obtain ⟨v, ms, p⟩ := t.out.p
  have h2 := t.out.o1.len
  exact find ⟨p⟩ s (by omega)
theorem p_dep (t : Aside0 (Tw w B C g1 g2 st1 st2 j1 j2)) : Calls Try.prog 9 #[P1 g1] w fun e w' => e = .returned (.int .i64 st1.length) ∧ w = w' := by
  obtain ⟨v, ms, p⟩ := t.out.p
  exact depth p

theorem r_dcl (t : Aside0 (Tw w B C g1 g2 st1 st2 j1 j2)) (s : ByteArray) (x : Int) (hj : j2 ≤ 4398046511000) :
    Calls Try.prog 16 #[P1 g2, .string s, .int .i64 x] w fun e w' => e = .returned (.int .i64 (dclE st2 s)) ∧ Aside0 (Tw w' B C g1 g2 st1 (dcl st2 s x) j1 (j2 + 1)) ∧ Aside0 (Mv B C w w') := by
  obtain ⟨v, r⟩ := t.out.r
  have o := t.out.o2
  have o' := ok_dcl o s x
  have h1 := o.one
  have h2 := o.all
  have hi := hit_iff o s
  refine (rdeclare ⟨r⟩ s x t.out.hC (by omega)).mono fun e w' h => ?_
  rcases h with ⟨hh, he, v', r', b, f⟩ | ⟨hh, he, v', r', b, f⟩
  · have hk := hi.1 hh
    unfold dclE dcl at *
    rw [if_pos hk] at o' ⊢
    rw [if_pos hk]
    exact ⟨he, ⟨tw_r t.out ⟨v', r'⟩ o' b f⟩, ⟨.r t.out.hBC b f⟩⟩
  · have hk : ¬ (get (lst st2) s).2 = true := fun h => by
      obtain ⟨i, h1, h2⟩ := hi.2 h
      exact hh i h1 h2
    unfold dclE dcl at *
    rw [if_neg hk] at o' ⊢
    rw [if_neg hk]
    have hl : (add st2 s x).length = st2.length := by simp [add]
    refine ⟨he, ⟨tw_r t.out ⟨v', ?_⟩ o' b f⟩, ⟨.r t.out.hBC b f⟩⟩
    rw [flat_add _ _ _ h1, hl]
    exact r'
theorem r_ent (t : Aside0 (Tw w B C g1 g2 st1 st2 j1 j2)) (hj : j2 ≤ 4398046511000) :
    Calls Try.prog 17 #[P1 g2] w fun e w' => e = .returned (.tuple #[]) ∧ Aside0 (Tw w' B C g1 g2 st1 (st2 ++ [[]]) j1 (j2 + 1)) ∧ Aside0 (Mv B C w w') := by
  obtain ⟨v, r⟩ := t.out.r
  have o := t.out.o2
  have h2 := o.len
  refine (renter ⟨r⟩ (by omega) (by omega)).mono fun e w' ⟨he, r', b, f⟩ => ⟨he, ⟨tw_r t.out ⟨v, ?_⟩ (ok_ent o) b f⟩, ⟨.r t.out.hBC b f⟩⟩
  rw [flat_snoc]
  have : ((st2 ++ [[]]).length : Int) = (st2.length : Int) + 1 := by simp
  rw [this]
  simpa [ents] using r'
theorem r_lv (t : Aside0 (Tw w B C g1 g2 st1 st2 j1 j2)) (hj : j2 ≤ 4398046511000) :
    Calls Try.prog 18 #[P1 g2] w fun e w' => e = .returned (.int .i64 (lvE st2)) ∧ Aside0 (Tw w' B C g1 g2 st1 (lv st2) j1 (j2 + 1)) ∧ Aside0 (Mv B C w w') := by
  obtain ⟨v, r⟩ := t.out.r
  have o := t.out.o2
  have o' := ok_lv o
  have h1 := o.one
  have h2 := o.len
  have h3 := o.all
  unfold lvE lv at *
  by_cases hk : st2.length < 2
  · rw [if_pos hk] at o' ⊢
    rw [if_pos hk]
    exact (rleave_no ⟨r⟩ (by omega)).mono fun e w' ⟨he, hw⟩ => ⟨he, ⟨tw_r t.out ⟨v, hw ▸ r⟩ o' (hw ▸ Below.refl _ _) (hw ▸ Fr.refl _ _)⟩, ⟨hw ▸ Mv.refl _ _ _⟩⟩
  · rw [if_neg hk] at o' ⊢
    rw [if_neg hk]
    have hfl := flat_split st2 h1
    have hl : (st2.take (st2.length - 1)).length = st2.length - 1 := by rw [List.length_take]; omega
    refine (rleave ⟨r⟩ (flat (st2.take (st2.length - 1))).length ?_ ?_ ?_ (by omega) (by omega) (by omega)).mono fun e w' ⟨he, v', r', b, f⟩ => ⟨he, ⟨tw_r t.out ⟨v', ?_⟩ o' b f⟩, ⟨.r t.out.hBC b f⟩⟩
    · rw [hfl, List.length_append]; omega
    · by_cases h0 : (flat (st2.take (st2.length - 1))).length = 0
      · exact .inl h0
      · refine .inr ?_
        rw [hfl, getD_app _ _ _ _ (by omega)]
        have := flat_lt _ _ (getD_mem (flat (st2.take (st2.length - 1))) (0, ⟨#[]⟩, 0) ((flat (st2.take (st2.length - 1))).length - 1) (by omega))
        rw [hl] at this
        omega
    · intro i hi1 hi2
      rw [hfl, List.length_append] at hi2
      rw [hfl, getD_app2 _ _ _ _ hi1]
      have := getD_mem (ents st2.length (st2.getD (st2.length - 1) [])) (0, ⟨#[]⟩, 0) (i - (flat (st2.take (st2.length - 1))).length) (by omega)
      obtain ⟨p, _, he⟩ := List.mem_map.1 this
      rw [← he]
    · rw [hfl, List.take_left] at r'
      rw [hl]
      have : ((st2.length - 1 : Nat) : Int) = (st2.length : Int) - 1 := by omega
      rw [this]
      exact r'
theorem r_find (t : Aside0 (Tw w B C g1 g2 st1 st2 j1 j2)) (s : ByteArray) (hj : j2 ≤ 4398046511000) :
    Calls Try.prog 11 #[P1 g2, .string s] w fun e w' => e = .returned (.tuple #[.int .i64 (pf st2 s).1, .bool (pf st2 s).2]) ∧ w = w' := by
  obtain ⟨v, r⟩ := t.out.r
  have h2 := t.out.o2.all
  have := rfind ⟨r⟩ s (by omega)
  rw [rf_pf t.out.o2 s] at this
  exact this
end Go.Proofs.Ytojmhcmgnndfgaa.Sc
