/- A row of the call's own that is appended to, or one laid out of a constant: what an append makes of either. -/
import Derived.ArgAppend
import Derived.Laws.AppendOwn
import Derived.OwnWalk
import Derived.Below
import Derived.Deep.Draws
import Derived.Laws.BytesArg
namespace Go.Proofs.Ytbalpmpaccfpiaa.App
open Go Go.RowKit
variable {P : Program}

theorem lower {w : World} {b b' e size n : Nat} {v : Value} {xs : List Value} (h : w.ownsRow b e size v n xs) (hb : b' ≤ b) : w.ownsRow b' e size v n xs := by
  obtain ⟨h1, h2 | ⟨g, cap, cur, h3, h4, h5⟩⟩ := h
  · exact ⟨h1, .inl h2⟩
  · exact ⟨h1, .inr ⟨g, cap, cur, h3, Nat.le_trans hb h4, h5⟩⟩

/-- A row of the call's own, or a full one that a constant laid. -/
def Row (w : World) (base : Nat) (e : TypeId) (v : Value) (xs : List Value) : Prop :=
  w.ownsRow base e 1 v xs.length xs ∨ ∃ g, v = .slice (some ⟨g, 0, none⟩) xs.length xs.length ∧ base ≤ g ∧ g < w.heap.size ∧ ∀ j u, xs[j]? = some u → w.cell? ⟨g, j, none⟩ = some u

theorem Row.alloc {w : World} {base : Nat} {e : TypeId} {v : Value} {xs : List Value} (h : Row w base e v xs) (O : Obj) : Row (w.alloc O) base e v xs := by
  rcases h with h | ⟨g, h1, h2, h3, h4⟩
  · exact .inl (h.alloc O)
  · exact .inr ⟨g, h1, h2, by simp; omega, fun j u hj => (World.cell?_alloc_lt _ _ _ h3).trans (h4 j u hj)⟩
theorem Row.drewN {w : World} {base : Nat} {e : TypeId} {v : Value} {xs : List Value} (h : Row w base e v xs) (n : Nat) : Row (w.drewN n) base e v xs := h

theorem append {ops : Array Oper} {rest : List Oper} {o : Oper} {a : Act} {Q : Exit → Act → World → Prop} {w : World} (hgd : o.guard = none) (s x : Operand) (t : TypeId)
    (ho : o.op = .call { callee := .builtin .append, args := #[s, x], argTypes := #[t, t] })
    (base : Nat) (e : TypeId) (i : TypeInfo) (z : Value) (bytes : Nat) (ht : P.underlying t = some (.slice e)) (hi : P.info? e = some i) (hz : i.zero = some z)
    (hsize : i.size = 1) (hby : i.bytes = bytes) (hzs : z.cells.size = 1)
    (v : Value) (xs : List Value) (hs : a.eval s = v) (hrow : Row w base e v xs)
    (ad : Addr) (c : Nat) (news : List Value) (hx : a.eval x = .slice (some ad) news.length c) (hpos : 0 < news.length) (hnews : ∀ j u, news[j]? = some u → w.cell? (ad.add j) = some u) (h1 : ∀ u ∈ news, u.oneCell' = true)
    (h63 : xs.length + news.length ≤ maxLen) (hbytes : (xs.length + news.length) * bytes ≤ 140737488355328) (hbase : base ≤ w.heap.size)
    (h : ∀ v' w', w'.ownsRow base e 1 v' (xs ++ news).length (xs ++ news) → Below base w w' → wpList P ops Q rest (a.put o.dst v') w') : wpList P ops Q (o :: rest) a w := by
  rcases hrow with hown | ⟨g, rfl, hg, hlt, hc⟩
  · refine wpList_append_own w hgd s x t ho base e i z 1 bytes ht hi hz hsize hby hzs (by omega) v xs.length xs hs hown ad news.length c news hx (by simp) hnews h1 h63 hbytes hbase fun v' w' h2 h3 _ => ?_
    refine h v' w' (by rw [List.length_append]; exact h2) ?_
    refine ⟨h3.os, h3.tape, h3.output, h3.size, fun k hk => h3.block k (Nat.lt_of_lt_of_le hk hbase) ?_⟩
    intro hkk
    rcases hown.2 with ⟨rfl, _⟩ | ⟨g, cap, cur, rfl, hb, _⟩
    · simp [Value.ownBlock] at hkk
    · simp [Value.ownBlock] at hkk
      omega
  · refine wpList_append_grows w hgd s x t ho e i z 1 bytes ht hi hz hsize hby hzs (by omega) (some ⟨g, 0, none⟩) xs.length xs.length xs hs (by simp) (by simp) (fun b hb j u hj => ?_) ad news.length c news hx (by simp) hnews h1 (by omega) h63 hbytes fun v' w' h2 h3 => ?_
    · cases hb
      have : (⟨g, 0, none⟩ : Addr).add j = ⟨g, j, none⟩ := by unfold Addr.add; split <;> simp_all
      rw [this]
      exact hc j u hj
    · refine h v' w' (by rw [List.length_append]; exact lower h2 hbase) ?_
      exact ⟨h3.os, h3.tape, h3.output, h3.size, fun k hk => h3.block k (Nat.lt_of_lt_of_le hk hbase) (by simp)⟩

def bytes (xs : List Int) : List Value := xs.map fun x => .int .u8 x

theorem string {w : World} {base : Nat} {e src dst e' : TypeId} {v : Value} {xs : List Int} (hs : P.underlying src = some (.slice e)) (he : P.underlying e = some (.int .u8)) (hd : P.underlying dst = some .string)
    (h : Row w base e' v (bytes xs)) : (convert src dst v).run P w = .ok (.string (strOfNums xs)) w := by
  have key : ∀ g n cap, n = xs.length → (∀ j u, (bytes xs)[j]? = some u → w.cell? ⟨g, j, none⟩ = some u) → (convert src dst (.slice (some ⟨g, 0, none⟩) n cap)).run P w = .ok (.string (strOfNums xs)) w := fun g n cap hn hc => by
    refine run_convert_bytes_arg w src e hs he g 0 n cap xs hn.symm (fun i hi => ?_) dst hd
    rw [Nat.zero_add]
    exact hc i _ (by simp [bytes, List.getElem?_eq_getElem (show i < xs.length by omega), List.getD_eq_getElem?_getD])
  have hl : (bytes xs).length = xs.length := by simp [bytes]
  rcases h with h | ⟨g, rfl, _, _, hc⟩
  · rcases h.2 with ⟨rfl, hn⟩ | ⟨g, cap, cur, rfl, _⟩
    · obtain rfl : xs = [] := List.eq_nil_of_length_eq_zero (by omega)
      exact run_convert_bytes_nil w src e hs he 0 0 dst hd
    · exact key g _ cap hl fun j u hj => by
        have e : (⟨g, 0, none⟩ : Addr).add j = ⟨g, j, none⟩ := by unfold Addr.add; split <;> simp_all
        rw [← e]
        exact h.cells (g := g) rfl j u hj
  · exact key g _ _ hl hc

end Go.Proofs.Ytbalpmpaccfpiaa.App
