/- Scopes: the program's and the reference's side by side: each act of each. -/
import Derived.Test.YtojmhcmgnndfgaaScL
namespace Go.Proofs.Ytojmhcmgnndfgaa.Sc
open Go.RowKit Go.Proofs.YtojmhcmgnndfgaaW.PrintWords
set_option linter.unusedVariables false
set_option linter.unusedSimpArgs false

def G0 (o : Obj) : Prop := GP o ∧ GR o
/-- What stays: all below B, all of other kinds, and below C all but the program's scopes. -/
structure Mv (B C : Nat) (w w' : World) : Prop where
  b : Below B w w'
  f : Fr G0 w w'
  c : ∀ (k : Nat) (o : Obj), k < C → w.heap[k]? = some o → GP o → w'.heap[k]? = some o
theorem Fr.imp {G G' : Obj → Prop} {w w' : World} (f : Fr G w w') (h : ∀ o, G' o → G o) : Fr G' w w' := ⟨f.os, f.tape, f.output, f.size, fun k o hk hG => f.block k o hk (h o hG)⟩
theorem Mv.p {B C : Nat} {w w' : World} (b : Below B w w') (f : Fr GP w w') : Mv B C w w' := ⟨b, f.imp fun _ h => h.1, fun k o _ hk hG => f.block k o hk hG⟩
theorem Mv.r {B C : Nat} {w w' : World} (hBC : B ≤ C) (b : Below C w w') (f : Fr GR w w') : Mv B C w w' := ⟨Below.lower b hBC, f.imp fun _ h => h.2, fun k o hk h _ => (b.block k hk).trans h⟩
theorem Mv.refl (B C : Nat) (w : World) : Mv B C w w := ⟨Below.refl _ _, Fr.refl _ _, fun _ _ _ h _ => h⟩
theorem Mv.trans {B C : Nat} {w w1 w2 : World} (a : Mv B C w w1) (b : Mv B C w1 w2) : Mv B C w w2 := ⟨a.b.trans b.b, a.f.trans b.f, fun k o hk h hG => b.c k o hk (a.c k o hk h hG) hG⟩
theorem Mv.of_below {B C : Nat} {w w' : World} (b : Below w.heap.size w w') (hB : B ≤ w.heap.size) : Mv B C w w' := ⟨Below.lower b hB, .of_below b, fun k o _ h _ => (b.block k (blk_lt h)).trans h⟩

/-- The program's scope holds st1, the reference's st2. -/
structure Tw (w : World) (B C g1 g2 : Nat) (st1 st2 : List Blk) (j1 j2 : Nat) : Prop where
  p : ∃ v ms, PS w B g1 v ms st1
  r : ∃ v, RS w C g2 v (flat st2) st2.length
  o1 : Ok st1 j1
  o2 : Ok st2 j2
  hBC : B ≤ C
  hC : C ≤ w.heap.size
theorem Tw.hB {w : World} {B C g1 g2 j1 j2 : Nat} {st1 st2 : List Blk} (t : Tw w B C g1 g2 st1 st2 j1 j2) : B ≤ w.heap.size := Nat.le_trans t.hBC t.hC
theorem Tw.mv0 {w w' : World} {B C g1 g2 j1 j2 : Nat} {st1 st2 : List Blk} (t : Tw w B C g1 g2 st1 st2 j1 j2) (b : Below w.heap.size w w') : Tw w' B C g1 g2 st1 st2 j1 j2 := by
  obtain ⟨⟨v, ms, p⟩, ⟨u, r⟩, o1, o2, hBC, hC⟩ := t
  exact ⟨⟨v, ms, p.below b⟩, ⟨u, r.below b⟩, o1, o2, hBC, Nat.le_trans hC b.size⟩

/-- What an act leaves, and what it answers. -/
def lst (st : List Blk) : Blk := st.getD (st.length - 1) []
def dcl (st : List Blk) (s : ByteArray) (x : Int) : List Blk := if (get (lst st) s).2 = true then st else add st s x
def dclE (st : List Blk) (s : ByteArray) : Int := if (get (lst st) s).2 = true then 1 else 0
def lv (st : List Blk) : List Blk := if st.length < 2 then st else st.take (st.length - 1)
def lvE (st : List Blk) : Int := if st.length < 2 then 4 else 0

theorem add_split (st : List Blk) (s : ByteArray) (x : Int) (h : 1 ≤ st.length) : add st s x = st.take (st.length - 1) ++ [lst st ++ [(s, x)]] := by
  unfold add lst
  conv => lhs; rw [split st h]
  generalize st.getD (st.length - 1) [] = b
  have hl : (st.take (st.length - 1)).length = st.length - 1 := by rw [List.length_take]; omega
  generalize st.take (st.length - 1) = t at *
  simp only [List.length_append, List.length_singleton, hl]
  rw [show st.length - 1 + 1 - 1 = t.length by omega]
  simp [List.set_append]
theorem flat_add (st : List Blk) (s : ByteArray) (x : Int) (h : 1 ≤ st.length) : flat (add st s x) = flat st ++ [((st.length : Int), s, x)] := by
  rw [add_split st s x h, flat_snoc, flat_split st h, List.length_take, Nat.min_eq_left (by omega), show 1 + (st.length - 1) = st.length by omega]
  simp [ents, lst]
theorem ok_mono {st : List Blk} {j j' : Nat} (o : Ok st j) (h : j ≤ j') : Ok st j' := ⟨o.one, by have := o.len; omega, by have := o.all; omega, o.nd⟩
theorem ok_dcl {st : List Blk} {j : Nat} (o : Ok st j) (s : ByteArray) (x : Int) : Ok (dcl st s x) (j + 1) := by
  unfold dcl
  by_cases h : (get (lst st) s).2 = true
  · rw [if_pos h]; exact ok_mono o (by omega)
  · rw [if_neg h]
    refine ⟨by simp [add]; exact o.one, by simp [add]; have := o.len; omega, ?_, ?_⟩
    · rw [flat_add _ _ _ o.one, List.length_append]
      have := o.all
      simp
      omega
    · rw [add_split _ _ _ o.one]
      intro b hb
      rcases List.mem_append.1 hb with hb | hb
      · exact o.nd b (List.mem_of_mem_take hb)
      · rw [List.mem_singleton.1 hb, List.map_append]
        refine List.nodup_append.2 ⟨o.nd _ (getD_mem _ _ _ (by have := o.one; omega)), by simp, fun a ha c hc => ?_⟩
        have hc : c = s := by simpa using hc
        rw [hc]
        intro e
        rw [e] at ha
        exact h ((get_mem _ _).2 ha)
theorem ok_ent {st : List Blk} {j : Nat} (o : Ok st j) : Ok (st ++ [[]]) (j + 1) := by
  refine ⟨by simp, by have := o.len; simp; omega, ?_, ?_⟩
  · rw [flat_snoc]
    have := o.all
    simp [ents]
    omega
  · intro b hb
    rcases List.mem_append.1 hb with hb | hb
    · exact o.nd b hb
    · rw [List.mem_singleton.1 hb]; simp
theorem ok_lv {st : List Blk} {j : Nat} (o : Ok st j) : Ok (lv st) (j + 1) := by
  unfold lv
  by_cases h : st.length < 2
  · rw [if_pos h]; exact ok_mono o (by omega)
  · rw [if_neg h]
    have hl : (st.take (st.length - 1)).length = st.length - 1 := by rw [List.length_take]; omega
    refine ⟨by omega, by have := o.len; omega, ?_, fun b hb => o.nd b (List.mem_of_mem_take hb)⟩
    have := o.all
    rw [flat_split st o.one, List.length_append] at this
    omega
/-- Is it there: as the reference looks. -/
theorem hit_iff {st : List Blk} {j : Nat} (o : Ok st j) (s : ByteArray) : (∃ i, i < (flat st).length ∧ Hit (flat st) st.length s i) ↔ (get (lst st) s).2 = true := by
  have hfl := flat_split st o.one
  have hl : (st.take (st.length - 1)).length = st.length - 1 := by rw [List.length_take]; have := o.one; omega
  rw [get_mem]
  constructor
  · rintro ⟨i, hi, h1, h2⟩
    rw [hfl] at hi h1 h2
    by_cases hlt : i < (flat (st.take (st.length - 1))).length
    · rw [getD_app _ _ _ _ hlt] at h1
      have hb := flat_lt _ _ (getD_mem (flat (st.take (st.length - 1))) e0 i hlt)
      have := o.one
      rw [hl] at hb
      omega
    · rw [getD_app2 _ _ _ _ (by omega)] at h2
      rw [List.length_append] at hi
      have hm := getD_mem (ents st.length (lst st)) e0 (i - (flat (st.take (st.length - 1))).length) (by unfold lst; omega)
      obtain ⟨p, hp, he⟩ := List.mem_map.1 hm
      unfold lst at he hp
      rw [← he] at h2
      exact List.mem_map.2 ⟨p, hp, h2⟩
  · intro h
    obtain ⟨p, hp, he⟩ := List.mem_map.1 h
    obtain ⟨i, hi, hpi⟩ := List.getElem_of_mem hp
    refine ⟨(flat (st.take (st.length - 1))).length + i, ?_, ?_⟩
    · rw [hfl, List.length_append]
      have : i < (ents st.length (lst st)).length := by simpa [ents] using hi
      unfold lst at this
      omega
    · unfold Hit
      rw [hfl, getD_app2 _ _ _ _ (by omega), Nat.add_sub_cancel_left]
      have : (ents st.length (lst st)).getD i e0 = ((st.length : Int), p.1, p.2) := by
        simp [ents, List.getD_eq_getElem?_getD, List.getElem?_eq_getElem hi, hpi]
      unfold lst at this
      rw [this]
      exact ⟨rfl, he⟩
end Go.Proofs.Ytojmhcmgnndfgaa.Sc
