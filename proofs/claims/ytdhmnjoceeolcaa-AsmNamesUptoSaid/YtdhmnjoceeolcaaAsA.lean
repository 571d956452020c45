/- Maps from whole numbers to whole numbers. -/
import Derived.Test.YtdhmnjoceeolcaaGFy4
import Derived.Outline
import Derived.MapKept
import Derived.Maps.OwnSet
import Derived.Deep.RegionHeld3
namespace Go.Proofs.Ytdhmnjoceeolcaa.Asm
open Go.RowKit Go.Proofs.YtdhmnjoceeolcaaW.PrintWords Go.Proofs.YtdhmnjoceeolcaaW.PrintLast Go.Proofs.YtdhmnjoceeolcaaW.PrintMore Go.Proofs.Ytdhmnjoceeolcaa.GF
set_option linter.unusedVariables false
set_option linter.unusedSimpArgs false
abbrev Mm := List (Int × Int)
/-- What stands at a key. -/
def get : Mm → Int → Option Int
  | [], _ => none
  | p :: r, k => if p.1 = k then some p.2 else get r k
def up : Mm → Int → Int → Mm
  | [], k, x => [(k, x)]
  | p :: r, k, x => if p.1 = k then (k, x) :: r else p :: up r k x
theorem get_up (k x k' : Int) : ∀ es : Mm, get (up es k x) k' = if k' = k then some x else get es k'
  | [] => by simp only [up, get]; by_cases h : k = k' <;> simp [h]; intro e; exact absurd e.symm h
  | p :: r => by
    unfold up
    by_cases h : p.1 = k
    · rw [if_pos h]
      by_cases h2 : k' = k
      · rw [if_pos h2, get, if_pos h2.symm]
      · rw [if_neg h2, get, if_neg (fun e => h2 e.symm), get, if_neg (fun e => h2 (by rw [← e, h]))]
    · rw [if_neg h, get, get_up k x k' r]
      by_cases h3 : p.1 = k'
      · rw [if_pos h3, if_neg (fun e => h (by rw [h3, e])), get, if_pos h3]
      · rw [if_neg h3]
        by_cases h2 : k' = k
        · rw [if_pos h2]
          rw [if_pos h2]
        · rw [if_neg h2, if_neg h2, get, if_neg h3]
def vals (es : Mm) : List (Value × Value) := es.map fun p => (Value.int .i64 p.1, Value.int .i64 p.2)
/-- The map of a block. -/
def Mp (w : World) (m : Nat) (es : Mm) : Prop :=
  ∃ ents clock, w.heap[m]? = some (.map ents clock) ∧ ents.toList.map (fun x => (x.key, x.val)) = vals es
theorem find_get : ∀ (l : List MapEntry) (es : Mm) (k x : Int) (i : Nat), l.map (fun x => (x.key, x.val)) = vals es →
    (get es k = none ∧ up es k x = es ++ [(k, x)] ∧ Instr.findNow (.int .i64) (.int .i64 k) l i = some none) ∨
    (∃ v j, get es k = some v ∧ Instr.findNow (.int .i64) (.int .i64 k) l i = some (some (i + j, .int .i64 v)) ∧ up es k x = es.set j (k, x) ∧ ∃ e, l[j]? = some e ∧ e.key = .int .i64 k)
  | [], [], k, x, i, _ => .inl ⟨rfl, rfl, rfl⟩
  | [], p :: es, k, x, i, h => by simp [vals] at h
  | e :: l, [], k, x, i, h => by simp [vals] at h
  | e :: l, p :: es, k, x, i, h => by
    simp only [vals, List.map_cons, List.cons.injEq, Prod.mk.injEq] at h
    obtain ⟨⟨hk, hv⟩, h⟩ := h
    obtain ⟨r, hr, hi⟩ := MapKept.sameNow_of_keys (d := .int .i64) (a := .int .i64 k) (b := e.key) rfl (by rw [hk]; rfl)
    unfold get up Instr.findNow
    rw [hr]
    cases r with
    | true =>
      have hkp : k = p.1 := by have := hi.1 rfl; rw [hk] at this; injection this
      rw [if_pos hkp.symm, if_pos hkp.symm, hv]
      exact .inr ⟨p.2, 0, rfl, rfl, rfl, e, rfl, by rw [hk, hkp]⟩
    | false =>
      have hne : ¬ p.1 = k := fun e' => by
        have := hi.2 (by rw [hk, e'])
        cases this
      rw [if_neg hne, if_neg hne]
      rcases find_get l es k x (i + 1) h with ⟨h1, h2, h3⟩ | ⟨v, j, h1, h2, h3, h4⟩
      · exact .inl ⟨h1, by rw [h2]; rfl, h3⟩
      · exact .inr ⟨v, j + 1, h1, by rw [show i + (j + 1) = i + 1 + j by omega]; exact h2, by rw [h3]; rfl, h4⟩
theorem zero3 (w : World) : (zeroValue 3).run Try.prog w = .ok (.int .i64 0) w := by kernel_rfl
theorem ck3 (k : Int) (b : Bool) (w : World) : (Instr.checkKey b 10000 3 (.int .i64 k)).run Try.prog w = .ok () w := MapKept.run_checkKey (k := .int .i64 k) Try.underlying3 rfl _ 9999
theorem look {w : World} {m : Nat} {es : Mm} (h : Mp w m es) (k : Int) : (Instr.lookup 42 (.map (some m)) (.int .i64 k) false).run Try.prog w = .ok (.int .i64 ((get es k).getD 0)) w := by
  obtain ⟨ents, clock, hb, he⟩ := h
  rcases find_get ents.toList es k 0 0 he with ⟨h1, _, h3⟩ | ⟨v, j, h1, h3, _⟩
  · simp [Instr.lookup, run_underlying Try.underlying42, MapKept.run_getObj_map hb, ck3, MapKept.run_findKey Try.underlying3 h3, zero3, Result.andThen, h1]
  · simp [Instr.lookup, run_underlying Try.underlying42, MapKept.run_getObj_map hb, ck3, MapKept.run_findKey Try.underlying3 h3, Result.andThen, h1]
theorem lookok {w : World} {m : Nat} {es : Mm} (h : Mp w m es) (k : Int) : (Instr.lookup 42 (.map (some m)) (.int .i64 k) true).run Try.prog w = .ok (.tuple #[.int .i64 ((get es k).getD 0), .bool (get es k).isSome]) w := by
  obtain ⟨ents, clock, hb, he⟩ := h
  rcases find_get ents.toList es k 0 0 he with ⟨h1, _, h3⟩ | ⟨v, j, h1, h3, _⟩
  · simp [Instr.lookup, run_underlying Try.underlying42, MapKept.run_getObj_map hb, ck3, MapKept.run_findKey Try.underlying3 h3, zero3, Result.andThen, h1]
  · simp [Instr.lookup, run_underlying Try.underlying42, MapKept.run_getObj_map hb, ck3, MapKept.run_findKey Try.underlying3 h3, Result.andThen, h1]
/-- What a store leaves. -/
def putO (k x : Int) (ents : Array MapEntry) (clock : Nat) : Obj :=
  match Instr.findNow (.int .i64) (.int .i64 k) ents.toList 0 with
  | some (some (i, _)) => .map (ents.modify i fun e => { e with key := .int .i64 k, val := .int .i64 x }) clock
  | _ => .map (ents.push { key := .int .i64 k, val := .int .i64 x, born := clock }) (clock + 1)
def putM (w : World) (m : Nat) (k x : Int) : World :=
  match w.heap[m]? with
  | some (.map ents clock) => { w with heap := w.heap.setIfInBounds m (putO k x ents clock) }
  | _ => w
theorem put {w : World} {m : Nat} {es : Mm} (h : Mp w m es) (k x : Int) : (Instr.mapUpdate 42 (.map (some m)) (.int .i64 k) (.int .i64 x)).run Try.prog w = .ok () (putM w m k x) := by
  obtain ⟨ents, clock, hb, he⟩ := h
  rcases find_get ents.toList es k x 0 he with ⟨h1, _, h3⟩ | ⟨v, j, h1, h3, _, e, h4, h5⟩
  · simp [Instr.mapUpdate, run_underlying Try.underlying42, MapKept.run_getObj_map hb, ck3, MapKept.run_findKey Try.underlying3 h3, MapKept.run_setObj_map _ hb, Result.andThen, putM, hb, putO, h3]
  · rw [Nat.zero_add] at h3
    have hj : ents[j]? = some e := by simpa using h4
    have hst : ∀ w, (Instr.keyThatStays (.int .i64 k) (.int .i64 k)).run Try.prog w = .ok (.int .i64 k) w := fun w => MapKept.run_keyThatStays (d := .int .i64) (k := .int .i64 k) rfl
    simp [Instr.mapUpdate, run_underlying Try.underlying42, MapKept.run_getObj_map hb, ck3, MapKept.run_findKey Try.underlying3 h3, hj, h5, hst, MapKept.run_setObj_map _ hb, Result.andThen, putM, hb, putO, h3]
theorem putO_eq {ents : Array MapEntry} {es : Mm} (he : ents.toList.map (fun x => (x.key, x.val)) = vals es) (k x : Int) (clock : Nat) : ∃ ents' c', putO k x ents clock = .map ents' c' ∧ ents'.toList.map (fun x => (x.key, x.val)) = vals (up es k x) := by
  unfold putO
  rcases find_get ents.toList es k x 0 he with ⟨h1, h2, h3⟩ | ⟨v, j, h1, h3, h2, e, h4, h5⟩
  · rw [h3]
    exact ⟨_, _, rfl, by rw [h2]; simp [vals, he]⟩
  · rw [Nat.zero_add] at h3
    rw [h3]
    refine ⟨_, _, rfl, ?_⟩
    rw [h2]
    have hj : ents[j]? = some e := by simpa using h4
    rw [vals, List.map_set, show es.map (fun p => (Value.int .i64 p.1, Value.int .i64 p.2)) = vals es from rfl, ← he]
    apply List.ext_getElem?
    intro i
    rw [List.getElem?_map, List.getElem?_set, Array.getElem?_toList, Array.getElem?_modify, List.getElem?_map, Array.getElem?_toList]
    by_cases hi : j = i
    · subst hi
      have hlt : j < ents.toList.length := by have := (Array.getElem?_eq_some_iff.1 hj).1; simpa using this
      rw [if_pos rfl, if_pos rfl, if_pos (by simpa using hlt), hj]; rfl
    · rw [if_neg hi, if_neg hi]
theorem put_mp {w : World} {m : Nat} {es : Mm} (h : Mp w m es) (k x : Int) : Mp (putM w m k x) m (up es k x) := by
  obtain ⟨ents, clock, hb, he⟩ := h
  obtain ⟨ents', c', hO, hm⟩ := putO_eq he k x clock
  unfold putM
  rw [hb]
  exact ⟨ents', c', by rw [← hO]; exact (MapKept.heap_set hb).1, hm⟩
theorem put_block {w : World} {m : Nat} {es : Mm} (h : Mp w m es) (k x : Int) (b : Nat) (hk : b ≠ m) : (putM w m k x).heap[b]? = w.heap[b]? := by
  obtain ⟨ents, clock, hb, he⟩ := h
  unfold putM
  rw [hb]
  exact (MapKept.heap_set hb).2 b hk
theorem put_size {w : World} {m : Nat} {es : Mm} (h : Mp w m es) (k x : Int) : (putM w m k x).heap.size = w.heap.size := by
  obtain ⟨ents, clock, hb, he⟩ := h
  unfold putM
  rw [hb]
  simp
theorem put_grown {w : World} {m : Nat} {es : Mm} (h : Mp w m es) (k x : Int) : w.grownBy (putM w m k x) (some m) := by
  have hbl := put_block h k x
  obtain ⟨ents, clock, hb, he⟩ := h
  refine ⟨?_, ?_, ?_, ?_, fun b _ hk => hbl b (fun e => hk (by rw [e]))⟩ <;> (unfold putM; rw [hb]) <;> simp
theorem put_below {w W : World} {m : Nat} {es : Mm} (h : Below w.heap.size w W) (hm : Mp W m es) (hg : w.heap.size ≤ m) (k x : Int) : Below w.heap.size w (putM W m k x) :=
  ⟨by rw [show (putM W m k x).os = W.os by obtain ⟨e, c, hb, _⟩ := hm; unfold putM; rw [hb]]; exact h.os, by rw [show (putM W m k x).tape = W.tape by obtain ⟨e, c, hb, _⟩ := hm; unfold putM; rw [hb]]; exact h.tape, by rw [show (putM W m k x).output = W.output by obtain ⟨e, c, hb, _⟩ := hm; unfold putM; rw [hb]]; exact h.output, by rw [put_size hm]; exact h.size, fun b hb => (put_block hm k x b (by omega)).trans (h.block b hb)⟩
theorem Mp.keep {w w' : World} {m : Nat} {es : Mm} (h : Mp w m es) (hb : w'.heap[m]? = w.heap[m]?) : Mp w' m es := by
  obtain ⟨ents, clock, h1, h2⟩ := h
  exact ⟨ents, clock, hb.trans h1, h2⟩
theorem Mp.lt {w : World} {m : Nat} {es : Mm} (h : Mp w m es) : m < w.heap.size := by
  obtain ⟨ents, clock, h1, h2⟩ := h
  exact (Array.getElem?_eq_some_iff.1 h1).1
theorem Mp.below {w w' : World} {m : Nat} {es : Mm} (h : Mp w m es) (b : Below w.heap.size w w') : Mp w' m es := h.keep (b.block _ h.lt)
theorem Mp.new (w : World) : Mp (w.alloc (.map #[] 0)) w.heap.size [] := ⟨_, _, blk_new w _, rfl⟩
theorem Mp.cells {w : World} {m g : Nat} {es : Mm} {cs : Array Value} {t : TypeId} {q : Nat × Nat} (h : Mp w m es) (hb : w.heap[g]? = some (.cells cs t q)) : g ≠ m := by
  rintro rfl
  obtain ⟨ents, clock, h1, h2⟩ := h
  rw [h1] at hb; cases hb
end Go.Proofs.Ytdhmnjoceeolcaa.Asm
