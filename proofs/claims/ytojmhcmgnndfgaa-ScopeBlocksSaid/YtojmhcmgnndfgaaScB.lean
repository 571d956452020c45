/- Scopes: what the program's scope and the reference's hold; frames by types. -/
import Derived.Test.YtojmhcmgnndfgaaScA
namespace Go.Proofs.Ytojmhcmgnndfgaa.Sc
open Go.RowKit Go.Proofs.YtojmhcmgnndfgaaW.PrintWords
set_option linter.unusedVariables false
set_option linter.unusedSimpArgs false

/-- All blocks of a kind stay. -/
structure Fr (G : Obj → Prop) (w w' : World) : Prop where
  os : w'.os = w.os
  tape : w'.tape = w.tape
  output : w'.output = w.output
  size : w.heap.size ≤ w'.heap.size
  block : ∀ (k : Nat) (o : Obj), w.heap[k]? = some o → G o → w'.heap[k]? = some o
theorem Fr.refl (G : Obj → Prop) (w : World) : Fr G w w := ⟨rfl, rfl, rfl, Nat.le_refl _, fun _ _ h _ => h⟩
theorem Fr.trans {G : Obj → Prop} {w w1 w2 : World} (a : Fr G w w1) (b : Fr G w1 w2) : Fr G w w2 :=
  ⟨b.os.trans a.os, b.tape.trans a.tape, b.output.trans a.output, Nat.le_trans a.size b.size, fun k o h g => b.block k o (a.block k o h g) g⟩
theorem Fr.grown {G : Obj → Prop} {w w' : World} {row : Option Nat} (h : w.grownBy w' row) (hr : ∀ (k : Nat) (o : Obj), row = some k → w.heap[k]? = some o → ¬ G o) : Fr G w w' :=
  ⟨h.os, h.tape, h.output, h.size, fun k o hk g => (h.block k (blk_lt hk) (fun e => hr k o e.symm hk g)).trans hk⟩
theorem Fr.of_below {G : Obj → Prop} {w w' : World} (b : Below w.heap.size w w') : Fr G w w' := .grown (grown_of_below b none) (fun _ _ e => by cases e)
/-- Of other kinds than the program's scopes; than the reference's. -/
def GP : Obj → Prop
  | .cells _ t _ => t ≠ 44 ∧ t ≠ 47
  | .map _ _ => False
  | _ => True
def GR : Obj → Prop
  | .cells _ t _ => t ≠ 33 ∧ t ≠ 52
  | _ => True

theorem own_fr {G : Obj → Prop} {w w' : World} {B e size n : Nat} {v : Value} {xs : List Value} (h : w.ownsRow B e size v n xs) (f : Fr G w w') (hG : ∀ cs, G (.cells cs e (0, 0))) : w'.ownsRow B e size v n xs := by
  refine own_move h (fun k hk => ?_)
  obtain ⟨cells, hc⟩ := own_typed h k hk
  rw [f.block k _ hc (hG _), hc]
theorem Mp.fr {G : Obj → Prop} {w w' : World} {m : Nat} {es : Blk} (h : Mp w m es) (f : Fr G w w') (hG : ∀ es c, G (.map es c)) : Mp w' m es := by
  obtain ⟨ents, clock, hb, he⟩ := h
  exact ⟨ents, clock, f.block m _ hb (hG _ _), he⟩
theorem Mp.grown {w w' : World} {m : Nat} {es : Blk} {row : Option Nat} (h : Mp w m es) (g : w.grownBy w' row) (hr : some m ≠ row) : Mp w' m es := by
  obtain ⟨ents, clock, hb, he⟩ := h
  exact ⟨ents, clock, (g.block m (blk_lt hb) hr).trans hb, he⟩

def hnd (ms : List Nat) : List Value := ms.map fun m => Value.map (some m)
/-- The program's scope at g: its blocks' maps ms hold st. -/
structure PS (w : World) (B g : Nat) (v : Value) (ms : List Nat) (st : List Blk) : Prop where
  cell : w.heap[g]? = some (.cells #[v] 44 (0, 0))
  row : w.ownsRow B 47 1 v ms.length (hnd ms)
  len : ms.length = st.length
  mps : ∀ i, i < ms.length → Mp w (ms.getD i 0) (st.getD i [])
  nd : ms.Nodup
  bg : B ≤ g
  bm : ∀ m ∈ ms, B ≤ m
theorem PS.fr {w w' : World} {B g : Nat} {v : Value} {ms : List Nat} {st : List Blk} (p : PS w B g v ms st) (f : Fr GR w w') : PS w' B g v ms st :=
  ⟨f.block g _ p.cell (by simp [GR]), own_fr p.row f (by simp [GR]), p.len, fun i hi => (p.mps i hi).fr f (by simp [GR]), p.nd, p.bg, p.bm⟩
theorem PS.below {w w' : World} {B g : Nat} {v : Value} {ms : List Nat} {st : List Blk} (p : PS w B g v ms st) (b : Below w.heap.size w w') : PS w' B g v ms st := p.fr (.of_below b)

abbrev Ent := Int × ByteArray × Int
def cells (l : List Ent) : List Value := l.flatMap fun p => [.int .i64 p.1, .string p.2.1, .int .i64 p.2.2]
theorem cells_length (l : List Ent) : (cells l).length = l.length * 3 := by
  induction l with
  | nil => rfl
  | cons a l ih =>
    show ([_, _, _] ++ cells l).length = _
    rw [List.length_append, ih]
    simp
    omega
theorem cells_at : ∀ (l : List Ent) (i : Nat) (h : i < l.length), (cells l)[i * 3]? = some (.int .i64 (l.getD i (0, ⟨#[]⟩, 0)).1) ∧ (cells l)[i * 3 + 1]? = some (.string (l.getD i (0, ⟨#[]⟩, 0)).2.1) ∧ (cells l)[i * 3 + 2]? = some (.int .i64 (l.getD i (0, ⟨#[]⟩, 0)).2.2)
  | [], i, h => by simp at h
  | a :: l, 0, h => ⟨rfl, rfl, rfl⟩
  | a :: l, i + 1, h => by
    obtain ⟨h1, h2, h3⟩ := cells_at l i (by simpa using h)
    have e0 : (i + 1) * 3 = i * 3 + 3 := by omega
    rw [e0]
    exact ⟨h1, h2, h3⟩
theorem cells_take (l : List Ent) (n : Nat) : (cells l).take (n * 3) = cells (l.take n) := by
  induction l generalizing n with
  | nil => simp [cells]
  | cons a l ih =>
    cases n with
    | zero => simp [cells]
    | succ n =>
      have e0 : (n + 1) * 3 = n * 3 + 3 := by omega
      rw [e0]
      show _ :: _ :: _ :: (cells l).take (n * 3) = _
      rw [ih]
      rfl
theorem cells_append (l r : List Ent) : cells (l ++ r) = cells l ++ cells r := by simp [cells]

/-- The reference's scope at g: its names l, its blocks' number n. -/
structure RS (w : World) (B g : Nat) (v : Value) (l : List Ent) (n : Int) : Prop where
  cell : w.heap[g]? = some (.cells #[v, .int .i64 n] 33 (0, 0))
  row : w.ownsRow B 52 3 v l.length (cells l)
  bg : B ≤ g
theorem RS.fr {w w' : World} {B g : Nat} {v : Value} {l : List Ent} {n : Int} (p : RS w B g v l n) (f : Fr GP w w') : RS w' B g v l n :=
  ⟨f.block g _ p.cell (by simp [GP]), own_fr p.row f (by simp [GP]), p.bg⟩
theorem RS.below {w w' : World} {B g : Nat} {v : Value} {l : List Ent} {n : Int} (p : RS w B g v l n) (b : Below w.heap.size w w') : RS w' B g v l n := p.fr (.of_below b)

/-- A shorter one of the same row. -/
theorem own_cut {w : World} {B e size n c : Nat} {A : Option Addr} {xs : List Value} (h : w.ownsRow B e size (.slice A n c) n xs) (k : Nat) (hk : k ≤ n) : w.ownsRow B e size (.slice A k c) k (xs.take (k * size)) := by
  obtain ⟨h1, h2⟩ := h
  have hks : k * size ≤ n * size := Nat.mul_le_mul_right _ hk
  refine ⟨by rw [List.length_take]; omega, ?_⟩
  rcases h2 with ⟨h2, h3⟩ | ⟨g, cap, cur, h2, hb, hg, hn, hm, hs, ht⟩
  · injection h2 with a1 a2 a3
    subst a1 a3
    exact .inl ⟨by rw [show k = 0 by omega], by omega⟩
  · injection h2 with a1 a2 a3
    subst a1 a3
    refine .inr ⟨g, c, cur, rfl, hb, hg, by omega, hm, hs, ?_⟩
    rw [← ht, List.take_take, Nat.min_eq_left hks]
theorem own_slice {w : World} {B e size n : Nat} {v : Value} {xs : List Value} (h : w.ownsRow B e size v n xs) : ∃ A c, v = .slice A n c ∧ n ≤ c ∧ c ≤ maxLen ∧ (0 < n → ∃ b, A = some ⟨b, 0, none⟩) ∧ ∀ b, A = some b → (b = ⟨b.block, 0, none⟩ ∧ ∀ j u, xs[j]? = some u → w.cell? ⟨b.block, j, none⟩ = some u) := by
  rcases h.2 with ⟨rfl, rfl⟩ | ⟨g, cap, cur, rfl, hb, hg, hn, hm, hs, ht⟩
  · exact ⟨none, 0, rfl, by omega, by simp [maxLen], by omega, by simp⟩
  · refine ⟨some ⟨g, 0, none⟩, cap, rfl, hn, hm, fun _ => ⟨g, rfl⟩, fun b e => ?_⟩
    cases e
    refine ⟨rfl, fun j u hj => ?_⟩
    rw [blk_cell hg j]
    rw [← ht, List.getElem?_take] at hj
    split at hj
    · simpa using hj
    · cases hj
end Go.Proofs.Ytojmhcmgnndfgaa.Sc
