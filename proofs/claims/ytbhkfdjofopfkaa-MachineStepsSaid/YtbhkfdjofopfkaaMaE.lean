/- The program's machine: its memory's loads and stores; memoryStep. -/
import Derived.Test.YtbhkfdjofopfkaaMaC
import Derived.Test.YtbhkfdjofopfkaaWKept
namespace Go.Proofs.Ytbhkfdjofopfkaa.MemA
open Go.RowKit Go.Proofs.YtbhkfdjofopfkaaW.PrintWords Go.Proofs.YtbhkfdjofopfkaaW.PrintLast
set_option linter.unusedVariables false
set_option linter.unusedSimpArgs false
/-- All but the blocks of S is as it was. -/
structure Fr (S : Nat → Prop) (w w' : World) : Prop where
  os : w'.os = w.os
  tape : w'.tape = w.tape
  output : w'.output = w.output
  kept : Kept w w' S
theorem Fr.refl (S : Nat → Prop) (w : World) : Fr S w w := ⟨rfl, rfl, rfl, Kept.refl _ _⟩
theorem Fr.trans {S : Nat → Prop} {a b c : World} (h : Fr S a b) (k : Fr S b c) : Fr S a c := ⟨k.os.trans h.os, k.tape.trans h.tape, k.output.trans h.output, h.kept.then_ k.kept (fun _ hk => .inl hk)⟩
theorem Fr.mono {S S' : Nat → Prop} {a b : World} (h : Fr S a b) (hs : ∀ k, S k → S' k) : Fr S' a b := ⟨h.os, h.tape, h.output, h.kept.mono hs⟩
theorem Fr.of_below {w w' : World} (h : Below w.heap.size w w') (S : Nat → Prop) : Fr S w w' := ⟨h.os, h.tape, h.output, Kept.of_below h S⟩
theorem Fr.of_only {g : Nat} {w w' : World} (h : Only g w w') : Fr (· = g) w w' := ⟨h.os, h.tape, h.output, h.size, fun k hk hn => h.block k hk hn⟩
theorem Fr.setCell {S : Nat → Prop} {w w' : World} (h : Fr S w w') {p : Addr} (hp : S p.block) (u : Value) : Fr S w (w'.setCell p u) := ⟨h.os, h.tape, h.output, h.kept.setCell (.inl hp) u⟩
theorem Fr.set1 {h : Nat} {w w' : World} (k : Fr (· = h) w w') (j : Nat) (u : Value) : Fr (· = h) w (w'.setCell ⟨h, j, none⟩ u) := k.setCell (p := ⟨h, j, none⟩) rfl u
theorem Fr.blk {S : Nat → Prop} {w w' : World} (h : Fr S w w') {k : Nat} {o : Obj} (hb : w.heap[k]? = some o) (hn : ¬ S k) : w'.heap[k]? = some o := blk_kept hb h.kept hn
theorem Fr.below {S : Nat → Prop} {w w' : World} {B : Nat} (h : Fr S w w') (hB : B ≤ w.heap.size) (hs : ∀ k, k < B → ¬ S k) : Below B w w' := ⟨h.os, h.tape, h.output, h.kept.1, fun k hk => h.kept.2 k (Nat.lt_of_lt_of_le hk hB) (hs k hk)⟩
def RetF (S : Nat → Prop) (g base gm h : Nat) (v r : Value) (s : Mc) (w : World) (e : Ending) (w' : World) : Prop := e = .returned r ∧ MW w' base g gm h v s ∧ Fr S w w'
/-- May four bytes lie there? One byte? -/
def ok4 (t : Int) : Bool := t % 4 == 0 && decide (t + 4 ≤ 262144)
def ok1 (t : Int) : Bool := decide (t < 262144)
def put4 (b : List Int) (a : Nat) (x : Int) : List Int := (((b.set a (x % 256)).set (a + 1) (x / 256 % 256)).set (a + 2) (x / 65536 % 256)).set (a + 3) (x / 16777216)
theorem Mc.Ok.memL {s : Mc} (h : s.Ok) (a : Nat) : 0 ≤ s.mem.getD a 0 ∧ s.mem.getD a 0 ≤ 255 := h.m0 a
theorem byte_set {b : List Int} (h : ∀ i, 0 ≤ b.getD i 0 ∧ b.getD i 0 ≤ 255) (a : Nat) (x : Int) (x0 : 0 ≤ x) (x1 : x ≤ 255) : ∀ i, 0 ≤ (b.set a x).getD i 0 ∧ (b.set a x).getD i 0 ≤ 255 := by
  intro j
  by_cases hi : a < b.length
  · by_cases e : j = a
    · subst e; simp [List.getD_eq_getElem?_getD, hi]; omega
    · have := h j
      simp only [List.getD_eq_getElem?_getD] at this ⊢
      rwa [List.getElem?_set_ne (fun q => e q.symm)]
  · rw [List.set_eq_of_length_le (by omega)]; exact h j
theorem Mc.Ok.setMem {s : Mc} (h : s.Ok) {b : List Int} (hl : b.length = s.mem.length) (hb : ∀ i, 0 ≤ b.getD i 0 ∧ b.getD i 0 ≤ 255) : ({ s with mem := b } : Mc).Ok := ⟨h.rl, h.r0, hl.trans h.ml, hb, h.ul, h.il, h.cl, h.p0, h.c4⟩
theorem MW.h_own {w : World} {base g gm h : Nat} {v : Value} {s : Mc} (m : MW w base g gm h v s) : ∀ k, v.ownBlock = some k → k ≠ h := by
  intro k hk
  have := (Kd.R_bound m.out).1 k hk
  have := m.hb
  omega
/-- A byte of the memory is turned. -/
theorem MW.mem_set {w : World} {base g gm h : Nat} {v : Value} {s : Mc} (m : MW w base g gm h v s) (a : Nat) (x : Int) (x0 : 0 ≤ x) (x1 : x ≤ 255) : MW (w.setCell ⟨h, a, none⟩ (.int .u8 x)) base g gm h v { s with mem := s.mem.set a x } := by
  refine ⟨blk_far m.blk m.ne_h.symm _, m.mem.put a x, ?_, m.hb, m.ok.setMem (by simp) (byte_set m.ok.m0 a x x0 x1)⟩
  exact Kd.R_mono (ok := fun k => base ≤ k) (Kd.R_far (Kd.R_mono (Kd.R_bound m.out) (fun k hk => hk.2.1)) (fun k hk => by show k ≠ h; have := m.hb; omega) _) (fun _ _ => trivial)
theorem w4_bd {b : List Int} (h : ∀ i, 0 ≤ b.getD i 0 ∧ b.getD i 0 ≤ 255) (a : Nat) : 0 ≤ w4 b a ∧ w4 b a ≤ 4294967295 := by
  unfold w4
  have := h a; have := h (a + 1); have := h (a + 2); have := h (a + 3)
  omega
theorem ld4 {w : World} {base g gm h : Nat} {v : Value} {s : Mc} (m : Aside0 (MW w base g gm h v s)) (t : Int) (t0 : 0 ≤ t) (t1 : t < 4294967296) :
    Calls Try.prog 50 #[.pointer (some ⟨gm, 0, none⟩), .int .u32 t] w fun e w' => e = .returned (.tuple #[.int .u32 (if ok4 t then w4 s.mem t.toNat else 0), .int .i64 (if ok4 t then 0 else 1)]) ∧ ∃ n, w' = w.drewN n := by
  obtain ⟨a, rfl⟩ : ∃ a : Nat, t = (a : Int) := ⟨t.toNat, by omega⟩
  have hl := m.out.ok.ml
  cases hk : ok4 (a : Int)
  · refine (load4_no (w := w) (n := s.mem.length) (a := a) ⟨size ⟨m.out.mem⟩⟩ (by omega) (by omega) ?_).mono ?_
    · simp [ok4] at hk; omega
    · rintro e w' ⟨rfl, rfl⟩; exact ⟨rfl, 0, rfl⟩
  · simp [ok4] at hk
    refine (load4_yes (w := w) (a := a) ⟨m.out.mem⟩ (by omega) (by omega) ⟨by omega⟩ (by omega) m.out.ok.m0).mono ?_
    rintro e w' ⟨rfl, hn⟩
    exact ⟨rfl, hn⟩
theorem ld1 {w : World} {base g gm h : Nat} {v : Value} {s : Mc} (m : Aside0 (MW w base g gm h v s)) (t : Int) (t0 : 0 ≤ t) (t1 : t < 4294967296) :
    Calls Try.prog 51 #[.pointer (some ⟨gm, 0, none⟩), .int .u32 t] w fun e w' => e = .returned (.tuple #[.int .u32 (if ok1 t then s.mem.getD t.toNat 0 else 0), .int .i64 (if ok1 t then 0 else 1)]) ∧ w = w' := by
  obtain ⟨a, rfl⟩ : ∃ a : Nat, t = (a : Int) := ⟨t.toNat, by omega⟩
  have hl := m.out.ok.ml
  cases hk : ok1 (a : Int)
  · refine (load1_no (w := w) (n := s.mem.length) (a := a) ⟨size ⟨m.out.mem⟩⟩ (by omega) (by omega) ?_).mono ?_
    · simp [ok1] at hk; omega
    · rintro e w' ⟨rfl, rfl⟩; exact ⟨rfl, rfl⟩
  · simp [ok1] at hk
    refine (load1_yes (w := w) (a := a) ⟨m.out.mem⟩ (by omega) (by omega) (by omega) (m.out.ok.m0 a).1 (m.out.ok.m0 a).2).mono ?_
    rintro e w' ⟨rfl, rfl⟩
    exact ⟨rfl, rfl⟩
def Mc.st4 (s : Mc) (t x : Int) : Mc := if ok4 t then { s with mem := put4 s.mem t.toNat x } else s
def Mc.st1 (s : Mc) (t x : Int) : Mc := if ok1 t then { s with mem := s.mem.set t.toNat (x % 256) } else s
theorem st4 {w : World} {base g gm h : Nat} {v : Value} {s : Mc} (m : Aside0 (MW w base g gm h v s)) (t : Int) (t0 : 0 ≤ t) (t1 : t < 4294967296) (x : Int) (x0 : 0 ≤ x) (x1 : x ≤ 4294967295) :
    Calls Try.prog 52 #[.pointer (some ⟨gm, 0, none⟩), .int .u32 t, .int .u32 x] w (RetF (· = h) g base gm h v (.int .i64 (if ok4 t then 0 else 1)) (s.st4 t x) w) := by
  obtain ⟨a, rfl⟩ : ∃ a : Nat, t = (a : Int) := ⟨t.toNat, by omega⟩
  have hl := m.out.ok.ml
  unfold Mc.st4
  cases hk : ok4 (a : Int)
  · refine (store4_no (w := w) (n := s.mem.length) (a := a) x ⟨size ⟨m.out.mem⟩⟩ (by omega) (by omega) ?_).mono ?_
    · simp [ok4] at hk; omega
    · rintro e w' ⟨rfl, rfl⟩; exact ⟨rfl, m.out, Fr.refl _ _⟩
  · simp [ok4] at hk
    refine (store4_yes (w := w) (a := a) ⟨m.out.mem⟩ x x0 x1 (by omega) (by omega) ⟨by omega⟩ (by omega)).mono ?_
    rintro e w' ⟨rfl, rfl⟩
    refine ⟨rfl, ?_, ((((Fr.refl _ w).set1 _ _).set1 _ _).set1 _ _).set1 _ _⟩
    exact (((m.out.mem_set a (x % 256) (by omega) (by omega)).mem_set (a + 1) (x / 256 % 256) (by omega) (by omega)).mem_set (a + 2) (x / 65536 % 256) (by omega) (by omega)).mem_set (a + 3) (x / 16777216) (by omega) (by omega)
theorem st1 {w : World} {base g gm h : Nat} {v : Value} {s : Mc} (m : Aside0 (MW w base g gm h v s)) (t : Int) (t0 : 0 ≤ t) (t1 : t < 4294967296) (x : Int) (x0 : 0 ≤ x) (x1 : x ≤ 4294967295) :
    Calls Try.prog 53 #[.pointer (some ⟨gm, 0, none⟩), .int .u32 t, .int .u32 x] w (RetF (· = h) g base gm h v (.int .i64 (if ok1 t then 0 else 1)) (s.st1 t x) w) := by
  obtain ⟨a, rfl⟩ : ∃ a : Nat, t = (a : Int) := ⟨t.toNat, by omega⟩
  have hl := m.out.ok.ml
  unfold Mc.st1
  cases hk : ok1 (a : Int)
  · refine (store1_no (w := w) (n := s.mem.length) (a := a) x ⟨size ⟨m.out.mem⟩⟩ (by omega) (by omega) ?_).mono ?_
    · simp [ok1] at hk; omega
    · rintro e w' ⟨rfl, rfl⟩; exact ⟨rfl, m.out, Fr.refl _ _⟩
  · simp [ok1] at hk
    refine (store1_yes (w := w) (a := a) ⟨m.out.mem⟩ x x0 x1 (by omega) (by omega) (by omega)).mono ?_
    rintro e w' ⟨rfl, rfl⟩
    exact ⟨rfl, m.out.mem_set a (x % 256) (by omega) (by omega), (Fr.refl _ w).set1 _ _⟩
end Go.Proofs.Ytbhkfdjofopfkaa.MemA
