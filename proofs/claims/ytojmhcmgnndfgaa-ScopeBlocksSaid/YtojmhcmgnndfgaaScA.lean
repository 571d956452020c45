/- Scopes: maps with names for keys, the scope's words, frames by types. -/
import Derived.Test.YtojmhcmgnndfgaaProg
import Derived.Test.YtojmhcmgnndfgaaWWords
import Derived.Lib.Hide
import Derived.Outline
import Derived.WalkKit
import Derived.KernelRfl
import Derived.WalkSpells
import Derived.Lib.SliceRun
import Derived.WalkLawsBesides
import Derived.Deep.QuietTactic
import Derived.BigQuiet
import Derived.MapKept
import Derived.Maps.OwnSet
import Derived.Deep.RegionHeld3
namespace Go.Proofs.Ytojmhcmgnndfgaa.Sc
open Go.RowKit Go.Proofs.YtojmhcmgnndfgaaW.PrintWords
set_option linter.unusedVariables false
set_option linter.unusedSimpArgs false

abbrev Blk := List (ByteArray × Int)
/-- A name in a block: the first that is there. -/
def get : Blk → ByteArray → Int × Bool
  | [], _ => (0, false)
  | p :: r, s => if p.1 = s then (p.2, true) else get r s
/-- The map of a block. -/
def Mp (w : World) (m : Nat) (es : Blk) : Prop :=
  ∃ ents clock, w.heap[m]? = some (.map ents clock) ∧ ents.toList.map (fun x => (x.key, x.val)) = es.map (fun p => (Value.string p.1, Value.int .i64 p.2))

theorem find_get : ∀ (l : List MapEntry) (es : Blk) (s : ByteArray) (i : Nat), l.map (fun x => (x.key, x.val)) = es.map (fun p => (Value.string p.1, Value.int .i64 p.2)) →
    ((get es s).2 = false ∧ (get es s).1 = 0 ∧ Instr.findNow .string (.string s) l i = some none) ∨ ((get es s).2 = true ∧ ∃ j, Instr.findNow .string (.string s) l i = some (some (j, .int .i64 (get es s).1)))
  | [], [], s, i, _ => .inl ⟨rfl, rfl, rfl⟩
  | [], p :: es, s, i, h => by simp at h
  | x :: l, [], s, i, h => by simp at h
  | x :: l, p :: es, s, i, h => by
    simp only [List.map_cons, List.cons.injEq, Prod.mk.injEq] at h
    obtain ⟨⟨hk, hv⟩, h⟩ := h
    obtain ⟨r, hr, hi⟩ := MapKept.sameNow_of_keys (d := .string) (a := .string s) (b := x.key) trivial (by rw [hk]; trivial)
    unfold get Instr.findNow
    rw [hr]
    cases r with
    | true =>
      have : s = p.1 := by have := hi.1 rfl; rw [hk] at this; injection this
      rw [if_pos this.symm, hv]
      exact .inr ⟨rfl, _, rfl⟩
    | false =>
      have : ¬ p.1 = s := fun e => by
        have := hi.2 (by rw [hk, e])
        cases this
      rw [if_neg this]
      exact find_get l es s (i + 1) h

theorem zero3 (w : World) : (zeroValue 3).run Try.prog w = .ok (.int .i64 0) w := by kernel_rfl
theorem look {w : World} {m : Nat} {es : Blk} (h : Mp w m es) (s : ByteArray) : (Instr.lookup 47 (.map (some m)) (.string s) true).run Try.prog w = .ok (.tuple #[.int .i64 (get es s).1, .bool (get es s).2]) w := by
  obtain ⟨ents, clock, hb, he⟩ := h
  have hc : (Instr.checkKey ents.isEmpty 10000 9 (.string s)).run Try.prog w = .ok () w := MapKept.run_checkKey (k := .string s) Try.underlying9 (by simp [MapKept.IsKey]) _ 9999
  rcases find_get ents.toList es s 0 he with ⟨h1, h2, h3⟩ | ⟨h1, j, h3⟩
  · simp [Instr.lookup, run_underlying Try.underlying47, MapKept.run_getObj_map hb, hc, MapKept.run_findKey Try.underlying9 h3, zero3, Result.andThen, h1, h2]
  · simp [Instr.lookup, run_underlying Try.underlying47, MapKept.run_getObj_map hb, hc, MapKept.run_findKey Try.underlying9 h3, Result.andThen, h1]

/-- What a store of a new name leaves. -/
def putM (w : World) (m : Nat) (s : ByteArray) (x : Int) : World :=
  match w.heap[m]? with
  | some (.map ents clock) => { w with heap := w.heap.setIfInBounds m (.map (ents.push { key := .string s, val := .int .i64 x, born := clock }) (clock + 1)) }
  | _ => w
theorem put {w : World} {m : Nat} {es : Blk} (h : Mp w m es) (s : ByteArray) (x : Int) (hn : (get es s).2 = false) : (Instr.mapUpdate 47 (.map (some m)) (.string s) (.int .i64 x)).run Try.prog w = .ok () (putM w m s x) := by
  obtain ⟨ents, clock, hb, he⟩ := h
  have hc : (Instr.checkKey false 10000 9 (.string s)).run Try.prog w = .ok () w := MapKept.run_checkKey (k := .string s) Try.underlying9 (by simp [MapKept.IsKey]) _ 9999
  rcases find_get ents.toList es s 0 he with ⟨h1, h2, h3⟩ | ⟨h1, j, h3⟩
  · simp [Instr.mapUpdate, run_underlying Try.underlying47, MapKept.run_getObj_map hb, hc, MapKept.run_findKey Try.underlying9 h3, MapKept.run_setObj_map _ hb, Result.andThen, putM, hb]
  · rw [hn] at h1; cases h1
theorem put_mp {w : World} {m : Nat} {es : Blk} (h : Mp w m es) (s : ByteArray) (x : Int) : Mp (putM w m s x) m (es ++ [(s, x)]) := by
  obtain ⟨ents, clock, hb, he⟩ := h
  unfold putM
  rw [hb]
  exact ⟨_, _, (MapKept.heap_set hb).1, by simp [he]⟩
theorem put_block {w : World} {m : Nat} {es : Blk} (h : Mp w m es) (s : ByteArray) (x : Int) (k : Nat) (hk : k ≠ m) : (putM w m s x).heap[k]? = w.heap[k]? := by
  obtain ⟨ents, clock, hb, he⟩ := h
  unfold putM
  rw [hb]
  exact (MapKept.heap_set hb).2 k hk
theorem put_grown {w : World} {m : Nat} {es : Blk} (h : Mp w m es) (s : ByteArray) (x : Int) : w.grownBy (putM w m s x) (some m) := by
  have hbl := put_block h s x
  obtain ⟨ents, clock, hb, he⟩ := h
  refine ⟨?_, ?_, ?_, ?_, fun k _ hk => hbl k (fun e => hk (by rw [e]))⟩ <;> (unfold putM; rw [hb]) <;> simp
end Go.Proofs.Ytojmhcmgnndfgaa.Sc
