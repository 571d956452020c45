/- A region that draws its order: the operations that yield their value in every world are taken first, in the order of the text; what is left goes in whatever order. -/
import Derived.RegionTactic
namespace Go.Lex
section
variable {P : Program} {ops : Array Oper} {md : Region.Mode}
/-- The walk of operations each of which yields one value in every world. -/
def wpY (P : Program) (ops : Array Oper) (Q : Act → Prop) : List Oper → Act → Prop
  | [], a => Q a
  | o :: rest, a => if Region.wanted o (yielded ops a.tmps) = true then ∃ v, (∀ w, (execOp a.eval o).run P w = .ok (.value v) w) ∧ wpY P ops Q rest (a.put o.dst v) else wpY P ops Q rest (a.put o.dst undef)
theorem wpY_nil {Q : Act → Prop} {a : Act} (h : Q a) : wpY P ops Q [] a := h
theorem wpY_step {Q : Act → Prop} {a : Act} {o : Oper} {rest : List Oper} (v : Value) (hw : Region.wanted o (yielded ops a.tmps) = true) (hr : ∀ w, (execOp a.eval o).run P w = .ok (.value v) w) (h : wpY P ops Q rest (a.put o.dst v)) : wpY P ops Q (o :: rest) a := by
  unfold wpY; rw [if_pos hw]; exact ⟨v, hr, h⟩
theorem wpY_skip {Q : Act → Prop} {a : Act} {o : Oper} {rest : List Oper} (hw : Region.wanted o (yielded ops a.tmps) = false) (h : wpY P ops Q rest (a.put o.dst undef)) : wpY P ops Q (o :: rest) a := by
  unfold wpY; rw [if_neg (by rw [hw]; exact Bool.false_ne_true)]; exact h
/-- May the operations from k on, so many, be taken one behind the other? -/
def lexY (md : Region.Mode) (ops : Array Oper) : Nat → Nat → Array Bool → Bool
  | 0, _, _ => true
  | f + 1, k, listed => (Region.ready md ops listed).contains k && Region.free md ops listed k && lexY md ops f (k + 1) (listed.setIfInBounds k true)
def sets : Nat → Nat → Array Bool → Array Bool
  | 0, _, listed => listed
  | f + 1, k, listed => sets f (k + 1) (listed.setIfInBounds k true)
theorem wpAny_lexY {Q : Exit → Act → World → Prop} (hs : Region.noSelect ops = true) (hQ : ∀ c d v a w, Q (.panic c) (a.put d v) w → Q (.panic c) a w) (w : World) (g : Nat) :
    ∀ (l : List Oper) (k : Nat) (listed : Array Bool) (a : Act), (∀ j, j < l.length → l[j]? = ops[k + j]?) → lexY md ops l.length k listed = true →
      wpY P ops (fun a' => wpAny P md ops Q g (sets l.length k listed) a' w) l a → wpAny P md ops Q (l.length + g) listed a w
  | [], k, listed, a, _, _, h => by rw [List.length_nil, Nat.zero_add]; exact h
  | o :: l, k, listed, a, hl, hB, h => by
    have h0 : ops[k]? = some o := by simpa using (hl 0 (by simp)).symm
    simp only [List.length_cons, lexY, Bool.and_eq_true] at hB
    obtain ⟨⟨hr, hf⟩, hB'⟩ := hB
    have hnext : ∀ j, j < l.length → l[j]? = ops[k + 1 + j]? := fun j hj => by
      have := hl (j + 1) (by simp; omega)
      simpa [Nat.add_assoc, Nat.add_comm 1 j] using this
    rw [show (o :: l).length + g = (l.length + g) + 1 by simp; omega]
    unfold wpY at h
    by_cases hw : Region.wanted o (yielded ops a.tmps) = true
    · rw [if_pos hw] at h
      obtain ⟨v, hv, h⟩ := h
      exact wpAny_take h0 hs hf hr (fun c a w => hQ c o.dst v a w) (.inl ⟨hw, hv⟩) (wpAny_lexY hs hQ w g l (k + 1) _ _ hnext hB' h)
    · rw [if_neg hw] at h
      exact wpAny_take h0 hs hf hr (fun c a w => hQ c o.dst undef a w) (.inr ⟨by simpa using hw, rfl⟩) (wpAny_lexY hs hQ w g l (k + 1) _ _ hnext hB' h)
/-- The next m from k on, in the middle of a region. -/
theorem wpAny_lexN {Q : Exit → Act → World → Prop} {l : List Oper} {listed : Array Bool} {a : Act} {w : World} (k m g : Nat) (hs : Region.noSelect l.toArray = true) (hQ : ∀ c d v a w, Q (.panic c) (a.put d v) w → Q (.panic c) a w)
    (hk : k + m ≤ l.length) (hB : lexY md l.toArray m k listed = true) (h : wpY P l.toArray (fun a' => wpAny P md l.toArray Q g (sets m k listed) a' w) ((l.drop k).take m) a) : wpAny P md l.toArray Q (m + g) listed a w := by
  have hlen : ((l.drop k).take m).length = m := by simp; omega
  have := wpAny_lexY (P := P) (md := md) (ops := l.toArray) (Q := Q) hs hQ w g ((l.drop k).take m) k listed a (fun j hj => by
    rw [hlen] at hj
    simp [hj]) (by rw [hlen]; exact hB) (by rw [hlen]; exact h)
  rwa [hlen] at this
/-- The region: its first n operations taken first. -/
theorem region_lexY {id : Nat} {Q : Exit → Act → World → Prop} {a : Act} {w : World} {l : List Oper} (n : Nat) (hm : P.follows .mixedOrders = true) (hs : Region.noSelect l.toArray = true) (hn : n ≤ l.length)
    (hB : lexY .any l.toArray n 0 (Array.replicate l.length false) = true) (hQ : ∀ c d v a w, Q (.panic c) (a.put d v) w → Q (.panic c) a w)
    (h : wpY P l.toArray (fun a' => wpAny P .any l.toArray Q (l.length - n) (sets n 0 (Array.replicate l.length false)) a' w.drew) (l.take n) a) : (Code.region id l.toArray true).wp P Q a w := by
  refine wp_region_any hm ?_
  have hlen : (l.take n).length = n := by simp; omega
  have := wpAny_lexY (P := P) (md := .any) (ops := l.toArray) (Q := Q) hs hQ w.drew (l.length - n) (l.take n) 0 (Array.replicate l.length false) a (fun j hj => by
    rw [hlen] at hj
    simp [hj]) (by rw [hlen]; exact hB) (by rw [hlen]; exact h)
  rw [hlen, show n + (l.length - n) = l.length by omega] at this
  simpa using this
end
end Go.Lex
