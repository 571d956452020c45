/- A region that draws its order: the operations that yield their value in every world of a class are taken first, in the order of the text; the class is to be shown behind those of the others alone that may come ahead of one of them. -/
import Derived.Test.YtbhkfdjofopfkaaLex
import Derived.StillTail
import Derived.OrdersHeld
namespace Go.Lex
section
variable {P : Program} {ops : Array Oper} {md : Region.Mode} {S : World → Prop}
/-- Does an operation wait for each of the first n? -/
def late (md : Region.Mode) (ops : Array Oper) (n j : Nat) : Bool := (List.range n).all fun k => Region.waitsFor md ops j k
def wpAnyT (P : Program) (md : Region.Mode) (ops : Array Oper) (Q : Exit → Act → World → Prop) (S : World → Prop) (n : Nat) : Nat → Array Bool → Act → World → Prop
  | 0, listed, a, w => Region.ready md ops listed = [] ∧ Q .normal a w
  | f + 1, listed, a, w => (Region.ready md ops listed = [] → Q .normal a w) ∧
    ∀ i ∈ Region.ready md ops listed, wpOp P ops Q i (fun a' w' => (late md ops n i = false → S w') ∧ wpAnyT P md ops Q S n f (listed.setIfInBounds i true) a' w') a w
theorem wpAny_of_T {Q : Exit → Act → World → Prop} {n : Nat} : ∀ (f : Nat) (listed : Array Bool) (a : Act) (w : World), wpAnyT P md ops Q S n f listed a w → wpAny P md ops Q f listed a w
  | 0, _, _, _, h => h
  | f + 1, _, _, _, h => ⟨h.1, fun i hi => wpOp_mono (fun a' w' h' => wpAny_of_T f _ a' w' h'.2) (h.2 i hi)⟩
theorem not_late {n i j : Nat} {listed : Array Bool} (hr : j ∈ Region.ready md ops listed) (hi : i < n) (hun : listed.getD i true = false) : late md ops n j = false := by
  cases hl : late md ops n j
  · rfl
  · exfalso
    have h1 := List.all_eq_true.1 hl i (List.mem_range.2 hi)
    obtain ⟨oj, hoj, e, he, hb, hon⟩ := Region.waitsFor_spec h1
    obtain ⟨_, o', ho', hall⟩ := mem_ready.1 hr
    have : o' = oj := Option.some.inj (ho'.symm.trans hoj)
    subst this
    have h2 := hall e he hb
    rw [hon, getD_both hun] at h2
    cases h2
theorem wpAnyT_first {Q : Exit → Act → World → Prop} {n i : Nat} {oi : Oper} {v : Value} (hi : ops[i]? = some oi) (hin : i < n) (hsel : ∀ (j : Nat) (o : Oper) cs b, ops[j]? = some o → o.op ≠ .select cs b)
    (hQ : ∀ c a w, Q (.panic c) (a.put oi.dst v) w → Q (.panic c) a w) :
    ∀ (fuel : Nat) (listed : Array Bool) (a : Act) (w : World),
      (∀ j oj, ops[j]? = some oj → j ≠ i → listed.getD j true = false → (∀ e ∈ oj.after, Region.binds md e = true → e.on ≠ i) → oi.apart ops oj = true) →
      i ∈ Region.ready md ops listed → YieldsIf P ops S oi v a → S w →
      wpAnyT P md ops Q S n fuel (listed.setIfInBounds i true) (a.put oi.dst v) w → wpAnyT P md ops Q S n (fuel + 1) listed a w := by
  intro fuel
  induction fuel with
  | zero =>
    intro listed a w _ hr hy hS H
    refine ⟨fun h => (by rw [h] at hr; cases hr), fun j hj => ?_⟩
    by_cases hji : j = i
    · subst hji; exact hy.wpOp hi hS ⟨fun _ => hS, H⟩
    · have := ready_mono hj hji
      rw [H.1] at this
      cases this
  | succ fuel ih =>
    intro listed a w hfree hr hy hS H
    refine ⟨fun h => (by rw [h] at hr; cases hr), fun j hj => ?_⟩
    by_cases hji : j = i
    · subst hji; exact hy.wpOp hi hS ⟨fun _ => hS, H⟩
    · have h1 := H.2 j (ready_mono hj hji)
      obtain ⟨hjun, oj, hoj, hall⟩ := mem_ready.1 hj
      have h0 := (mem_ready.1 hr).1
      have hlate := not_late (n := n) hj hin h0
      have hnot : ∀ e ∈ oj.after, Region.binds md e = true → e.on ≠ i := fun e he hb heq => by
        have h1 := hall e he hb
        rw [heq, getD_both h0] at h1
        cases h1
      have h2 := wpOp_putIf hoj (hfree j oj hoj hji hjun hnot) (fun cs b => hsel i oi cs b hi) (fun cs b => hsel j oj cs b hoj) hQ hy h1
      have hfree' : ∀ k ok, ops[k]? = some ok → k ≠ i → (listed.setIfInBounds j true).getD k true = false →
          (∀ e ∈ ok.after, Region.binds md e = true → e.on ≠ i) → oi.apart ops ok = true := fun k ok hk hki hun hno => by
        refine hfree k ok hk hki ?_ hno
        by_cases hjk : j = k
        · subst hjk; exact hjun
        · rw [getD_set_ne true hjk] at hun; exact hun
      refine wpOp_mono (fun a' w' h3 => ⟨fun _ => h3.2.1 hlate, ih (listed.setIfInBounds j true) a' w' hfree' (ready_mono hr (Ne.symm hji)) h3.1 (h3.2.1 hlate) ?_⟩) h2
      rw [Array.setIfInBounds_comm _ _ hji]
      exact h3.2.2
/-- The walk of operations each of which yields one value in every world of the class. -/
def wpYS (P : Program) (ops : Array Oper) (S : World → Prop) (Q : Act → Prop) : List Oper → Act → Prop
  | [], a => Q a
  | o :: rest, a => if Region.wanted o (yielded ops a.tmps) = true then ∃ v, (∀ w, S w → (execOp a.eval o).run P w = .ok (.value v) w) ∧ wpYS P ops S Q rest (a.put o.dst v) else wpYS P ops S Q rest (a.put o.dst undef)
theorem wpYS_nil {Q : Act → Prop} {a : Act} (h : Q a) : wpYS P ops S Q [] a := h
theorem wpYS_step {Q : Act → Prop} {a : Act} {o : Oper} {rest : List Oper} (v : Value) (hw : Region.wanted o (yielded ops a.tmps) = true) (hr : ∀ w, S w → (execOp a.eval o).run P w = .ok (.value v) w) (h : wpYS P ops S Q rest (a.put o.dst v)) : wpYS P ops S Q (o :: rest) a := by
  unfold wpYS; rw [if_pos hw]; exact ⟨v, hr, h⟩
theorem wpAnyT_lex {Q : Exit → Act → World → Prop} {n : Nat} (hs : Region.noSelect ops = true) (hQ : ∀ c d v a w, Q (.panic c) (a.put d v) w → Q (.panic c) a w) (w : World) (hS : S w) (g : Nat) :
    ∀ (l : List Oper) (k : Nat) (listed : Array Bool) (a : Act), k + l.length ≤ n → (∀ j, j < l.length → l[j]? = ops[k + j]?) → lexY md ops l.length k listed = true →
      wpYS P ops S (fun a' => wpAnyT P md ops Q S n g (sets l.length k listed) a' w) l a → wpAnyT P md ops Q S n (l.length + g) listed a w
  | [], k, listed, a, _, _, _, h => by rw [List.length_nil, Nat.zero_add]; exact h
  | o :: l, k, listed, a, hkn, hl, hB, h => by
    have h0 : ops[k]? = some o := by simpa using (hl 0 (by simp)).symm
    simp only [List.length_cons, lexY, Bool.and_eq_true] at hB
    obtain ⟨⟨hr, hf⟩, hB'⟩ := hB
    simp only [List.length_cons] at hkn
    have hnext : ∀ j, j < l.length → l[j]? = ops[k + 1 + j]? := fun j hj => by
      have := hl (j + 1) (by simp; omega)
      simpa [Nat.add_assoc, Nat.add_comm 1 j] using this
    rw [show (o :: l).length + g = (l.length + g) + 1 by simp; omega]
    unfold wpYS at h
    by_cases hw : Region.wanted o (yielded ops a.tmps) = true
    · rw [if_pos hw] at h
      obtain ⟨v, hv, h⟩ := h
      exact wpAnyT_first h0 (by omega) (Region.noSelect_spec hs) (fun c a w => hQ c o.dst v a w) _ _ _ _ (Region.free_spec h0 hf) (by simpa using hr) (.inl ⟨hw, hv⟩) hS (wpAnyT_lex hs hQ w hS g l (k + 1) _ _ (by omega) hnext hB' h)
    · rw [if_neg hw] at h
      exact wpAnyT_first h0 (by omega) (Region.noSelect_spec hs) (fun c a w => hQ c o.dst undef a w) _ _ _ _ (Region.free_spec h0 hf) (by simpa using hr) (.inr ⟨by simpa using hw, rfl⟩) hS (wpAnyT_lex hs hQ w hS g l (k + 1) _ _ (by omega) hnext hB' h)
/-- The region: its first n operations taken first. -/
theorem region_lexS {id : Nat} {Q : Exit → Act → World → Prop} {a : Act} {w : World} {l : List Oper} (S : World → Prop) (n : Nat) (hm : P.follows .mixedOrders = true) (hs : Region.noSelect l.toArray = true) (hn : n ≤ l.length)
    (hB : lexY .any l.toArray n 0 (Array.replicate l.length false) = true) (hQ : ∀ c d v a w, Q (.panic c) (a.put d v) w → Q (.panic c) a w) (hS : S w.drew)
    (h : wpYS P l.toArray S (fun a' => wpAnyT P .any l.toArray Q S n (l.length - n) (sets n 0 (Array.replicate l.length false)) a' w.drew) (l.take n) a) : (Code.region id l.toArray true).wp P Q a w := by
  refine wp_region_any hm ?_
  have hlen : (l.take n).length = n := by simp; omega
  have := wpAnyT_lex (P := P) (md := .any) (ops := l.toArray) (Q := Q) (S := S) (n := n) hs hQ w.drew hS (l.length - n) (l.take n) 0 (Array.replicate l.length false) a (by rw [hlen]; omega) (fun j hj => by
    rw [hlen] at hj
    simp [hj]) (by rw [hlen]; exact hB) (by rw [hlen]; exact h)
  rw [hlen, show n + (l.length - n) = l.length by omega] at this
  have := wpAny_of_T _ _ _ _ this
  simpa using this
/-- One operation alone may come next. -/
theorem wpAnyT_one {Q : Exit → Act → World → Prop} {n f i : Nat} {o : Oper} {listed : Array Bool} {a : Act} {w : World} (hr : Region.ready md ops listed = [i]) (ho : ops[i]? = some o)
    (h : ∀ K' : Act → World → Prop, (∀ a w, (late md ops n i = false → S w) → wpAnyT P md ops Q S n f (listed.setIfInBounds i true) a w → K' a w) → if Region.wanted o (yielded ops a.tmps) = true then Oper.wp P o a w K' Q else K' (a.put o.dst undef) w) : wpAnyT P md ops Q S n (f + 1) listed a w := by
  refine ⟨fun h0 => (by rw [hr] at h0; cases h0), fun j hj => ?_⟩
  rw [hr] at hj
  obtain rfl : j = i := by simpa using hj
  exact wpOp_step ho (fun K' hK => h K' (fun a w hS hW => hK a w ⟨hS, hW⟩))
theorem wpAnyT_done {Q : Exit → Act → World → Prop} {n : Nat} {listed : Array Bool} {a : Act} {w : World} (hr : Region.ready md ops listed = []) (h : Q .normal a w) : ∀ f, wpAnyT P md ops Q S n f listed a w
  | 0 => ⟨hr, h⟩
  | _ + 1 => ⟨fun _ => h, by rw [hr]; simp⟩
end
end Go.Lex
