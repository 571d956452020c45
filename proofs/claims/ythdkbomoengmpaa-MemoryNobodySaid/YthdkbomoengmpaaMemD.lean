/- Both memories side by side: an act in each. -/
import Derived.Test.YthdkbomoengmpaaMemC
import Derived.Deep.RegionHeld3
namespace Go.Proofs.Ythdkbomoengmpaa.MemA
open Go.RowKit Go.Proofs.YthdkbomoengmpaaW.PrintWords
set_option linter.unusedVariables false
set_option linter.unusedSimpArgs false

/-- All but two blocks are as they were. -/
structure Fr (h1 h2 : Nat) (w w' : World) : Prop where
  os : w'.os = w.os
  tape : w'.tape = w.tape
  output : w'.output = w.output
  size : w.heap.size ≤ w'.heap.size
  block : ∀ k, k < w.heap.size → k ≠ h1 → k ≠ h2 → w'.heap[k]? = w.heap[k]?
theorem Fr.refl (h1 h2 : Nat) (w : World) : Fr h1 h2 w w := ⟨rfl, rfl, rfl, Nat.le_refl _, fun _ _ _ _ => rfl⟩
theorem Fr.trans {h1 h2 : Nat} {w w1 w2 : World} (a : Fr h1 h2 w w1) (b : Fr h1 h2 w1 w2) : Fr h1 h2 w w2 :=
  ⟨b.os.trans a.os, b.tape.trans a.tape, b.output.trans a.output, Nat.le_trans a.size b.size, fun k hk e1 e2 => (b.block k (Nat.lt_of_lt_of_le hk a.size) e1 e2).trans (a.block k hk e1 e2)⟩
theorem Fr.of1 {h1 h2 : Nat} {w w' : World} (g : w.grownBy w' (some h1)) : Fr h1 h2 w w' := ⟨g.os, g.tape, g.output, g.size, fun k hk e1 _ => g.block k hk (fun e => e1 (by injection e))⟩
theorem Fr.of2 {h1 h2 : Nat} {w w' : World} (g : w.grownBy w' (some h2)) : Fr h1 h2 w w' := ⟨g.os, g.tape, g.output, g.size, fun k hk _ e2 => g.block k hk (fun e => e2 (by injection e))⟩
theorem Fr.of_below {h1 h2 : Nat} {w w' : World} (b : Below w.heap.size w w') : Fr h1 h2 w w' := .of1 (grown_of_below b _)
theorem Fr.drew (h1 h2 : Nat) (w : World) : Fr h1 h2 w w.drew := ⟨rfl, rfl, rfl, Nat.le_refl _, fun _ _ _ _ => rfl⟩
theorem Fr.below {h1 h2 B : Nat} {w0 w w' : World} (b : Below B w0 w) (hB : B ≤ w.heap.size) (e1 : B ≤ h1) (e2 : B ≤ h2) (f : Fr h1 h2 w w') : Below B w0 w' :=
  ⟨f.os.trans b.os, f.tape.trans b.tape, f.output.trans b.output, Nat.le_trans b.size f.size, fun k hk => (f.block k (Nat.lt_of_lt_of_le hk hB) (by omega) (by omega)).trans (b.block k hk)⟩
theorem Fr.cell {h1 h2 : Nat} {w w' : World} (f : Fr h1 h2 w w') {k o : Nat} {v : Value} (h : w.cell? ⟨k, o, none⟩ = some v) (e1 : k ≠ h1) (e2 : k ≠ h2) : w'.cell? ⟨k, o, none⟩ = some v := by
  have hk : k < w.heap.size := World.block_lt_of_cell? w _ h
  have := f.block k hk e1 e2
  unfold World.cell? at h ⊢
  rw [this]
  exact h

/-- The program's memory and the reference's, with the same bytes. -/
structure Two (w : World) (g1 h1 g2 h2 : Nat) (b c : List Int) : Prop where
  m1 : Mem 46 w g1 h1 b
  m2 : Mem 35 w g2 h2 c
  d1 : h1 ≠ g2
  d2 : h1 ≠ h2
  d3 : g1 ≠ h2
theorem Two.one {w w' : World} {g1 h1 g2 h2 : Nat} {b c b' : List Int} (t : Two w g1 h1 g2 h2 b c) (m : Mem 46 w' g1 h1 b') (g : w.grownBy w' (some h1)) : Two w' g1 h1 g2 h2 b' c :=
  ⟨m, t.m2.grown g (fun e => t.d1 (by injection e with e; exact e.symm)) (fun e => t.d2 (by injection e with e; exact e.symm)), t.d1, t.d2, t.d3⟩
theorem Two.two {w w' : World} {g1 h1 g2 h2 : Nat} {b c c' : List Int} (t : Two w g1 h1 g2 h2 b c) (m : Mem 35 w' g2 h2 c') (g : w.grownBy w' (some h2)) : Two w' g1 h1 g2 h2 b c' :=
  ⟨t.m1.grown g (fun e => t.d3 (by injection e)) (fun e => t.d2 (by injection e)), m, t.d1, t.d2, t.d3⟩
theorem Two.below {w w' : World} {g1 h1 g2 h2 : Nat} {b c : List Int} (t : Two w g1 h1 g2 h2 b c) (hb : Below w.heap.size w w') : Two w' g1 h1 g2 h2 b c := ⟨t.m1.below hb, t.m2.below hb, t.d1, t.d2, t.d3⟩

/-- Bytes are bytes. -/
def Byt (b : List Int) : Prop := ∀ i, 0 ≤ b.getD i 0 ∧ b.getD i 0 ≤ 255
theorem Byt.set {b : List Int} (h : Byt b) (a : Nat) (x : Int) (h0 : 0 ≤ x) (h1 : x ≤ 255) : Byt (b.set a x) := by
  intro i
  rw [List.getD_eq_getElem?_getD, List.getElem?_set]
  by_cases e : a = i
  · subst e
    by_cases hl : a < b.length
    · simp [hl]; omega
    · simp [hl]
  · rw [if_neg e]
    exact h i
theorem Byt.lay : ∀ (l : List Int) (a : Nat) (b : List Int), Byt b → (∀ x ∈ l, 0 ≤ x ∧ x ≤ 255) → Byt (lay b a l)
  | [], _, _, h, _ => h
  | x :: l, a, b, h, hl => Byt.lay l (a + 1) _ (h.set a x (hl x (by simp)).1 (hl x (by simp)).2) (fun y hy => hl y (by simp [hy]))
theorem byt_bytesOf (s : ByteArray) : ∀ x ∈ bytesOf s, 0 ≤ x ∧ x ≤ 255 := by
  intro x hx
  unfold bytesOf at hx
  obtain ⟨y, _, rfl⟩ := List.mem_map.1 hx
  have := y.toNat_lt
  omega
theorem byt_bs4 (x : Int) : ∀ y ∈ bs4 x, 0 ≤ y ∧ y ≤ 255 := by
  intro y hy
  simp only [bs4, List.mem_cons, List.not_mem_nil, or_false] at hy
  omega
theorem byt_made (n : Nat) : Byt (List.replicate n 0) := by
  intro i
  rw [List.getD_eq_getElem?_getD, List.getElem?_replicate]
  split <;> simp

/-- What an act leaves, and what it answers. -/
def st4 (b : List Int) (a : Nat) (x : Int) : List Int := if a % 4 = 0 ∧ a + 4 ≤ b.length then lay b a (bs4 x) else b
def st1 (b : List Int) (a : Nat) (x : Int) : List Int := if a < b.length then b.set a (x % 256) else b
def fil (b : List Int) (a : Nat) (s : ByteArray) : List Int := if a + s.size ≤ b.length then lay b a (bytesOf s) else b
def er (p : Prop) [Decidable p] : Int := if p then 0 else 1

section
variable {w : World} {g1 h1 g2 h2 : Nat} {b c : List Int} {a : Nat}
theorem p4 (t : Aside0 (Two w g1 h1 g2 h2 b c)) (x : Int) (hx0 : 0 ≤ x) (hx1 : x ≤ 4294967295) (hn : b.length ≤ 262144) (ha : a < 4294967296) :
    Calls Try.prog 15 #[.pointer (some ⟨g1, 0, none⟩), .int .u32 (a : Int), .int .u32 x] w fun e w' => e = .returned (.int .i64 (er (a % 4 = 0 ∧ a + 4 ≤ b.length))) ∧ Aside0 (Two w' g1 h1 g2 h2 (st4 b a x) c) ∧ Aside0 (Fr h1 h2 w w') := by
  by_cases h : a % 4 = 0 ∧ a + 4 ≤ b.length
  · refine (store4_yes ⟨t.out.m1⟩ x hx0 hx1 hn ha ⟨h.1⟩ h.2).mono fun e w' ⟨he, hw⟩ => ⟨by rw [he, er, if_pos h], ?_⟩
    subst hw
    have hg := grown_set (grown_set (grown_set (grown_set (grown_of_below (Below.refl w.heap.size w) (some h1)) a (.int .u8 (x % 256))) (a + 1) (.int .u8 (x / 256 % 256))) (a + 2) (.int .u8 (x / 65536 % 256))) (a + 3) (.int .u8 (x / 16777216))
    refine ⟨⟨t.out.one ?_ hg⟩, ⟨.of1 hg⟩⟩
    unfold st4
    rw [if_pos h]
    have hm := (((t.out.m1.put a (x % 256)).put (a + 1) (x / 256 % 256)).put (a + 2) (x / 65536 % 256)).put (a + 3) (x / 16777216)
    have e : x / 16777216 = x / 16777216 % 256 := by omega
    rw [e] at hm ⊢
    exact hm
  · refine (store4_no x ⟨size ⟨t.out.m1⟩⟩ hn ha (by omega)).mono fun e w' ⟨he, hw⟩ => ⟨by rw [he, er, if_neg h], ?_⟩
    subst hw
    unfold st4
    rw [if_neg h]
    exact ⟨t, ⟨.refl _ _ _⟩⟩
theorem r4 (t : Aside0 (Two w g1 h1 g2 h2 b c)) (x : Int) (hx0 : 0 ≤ x) (hx1 : x ≤ 4294967295) (hn : c.length ≤ 262144) (ha : a < 4294967296) :
    Calls Try.prog 23 #[.pointer (some ⟨g2, 0, none⟩), .int .u32 (a : Int), .int .u32 x] w fun e w' => e = .returned (.int .i64 (er (a % 4 = 0 ∧ a + 4 ≤ c.length))) ∧ Aside0 (Two w' g1 h1 g2 h2 b (st4 c a x)) ∧ Aside0 (Fr h1 h2 w w') := by
  by_cases h : a % 4 = 0 ∧ a + 4 ≤ c.length
  · refine (rstore4_yes ⟨t.out.m2⟩ x hx0 hx1 hn ha h.1 h.2).mono fun e w' ⟨he, hm, hg⟩ => ⟨by rw [he, er, if_pos h], ?_, ⟨.of2 hg⟩⟩
    unfold st4
    rw [if_pos h]
    exact ⟨t.out.two hm hg⟩
  · refine (rstore4_no ⟨t.out.m2⟩ x hn ha (by omega)).mono fun e w' ⟨he, hw⟩ => ⟨by rw [he, er, if_neg h], ?_⟩
    subst hw
    unfold st4
    rw [if_neg h]
    exact ⟨t, ⟨.refl _ _ _⟩⟩
theorem p1 (t : Aside0 (Two w g1 h1 g2 h2 b c)) (x : Int) (hx0 : 0 ≤ x) (hx1 : x ≤ 4294967295) (hn : b.length ≤ 262144) (ha : a < 4294967296) :
    Calls Try.prog 16 #[.pointer (some ⟨g1, 0, none⟩), .int .u32 (a : Int), .int .u32 x] w fun e w' => e = .returned (.int .i64 (er (a < b.length))) ∧ Aside0 (Two w' g1 h1 g2 h2 (st1 b a x) c) ∧ Aside0 (Fr h1 h2 w w') := by
  by_cases h : a < b.length
  · refine (store1_yes ⟨t.out.m1⟩ x hx0 hx1 hn ha h).mono fun e w' ⟨he, hw⟩ => ⟨by rw [he, er, if_pos h], ?_⟩
    subst hw
    have hg := grown_set (grown_of_below (Below.refl w.heap.size w) (some h1)) a (.int .u8 (x % 256))
    refine ⟨⟨t.out.one ?_ hg⟩, ⟨.of1 hg⟩⟩
    unfold st1
    rw [if_pos h]
    exact t.out.m1.put a (x % 256)
  · refine (store1_no x ⟨size ⟨t.out.m1⟩⟩ hn ha (by omega)).mono fun e w' ⟨he, hw⟩ => ⟨by rw [he, er, if_neg h], ?_⟩
    subst hw
    unfold st1
    rw [if_neg h]
    exact ⟨t, ⟨.refl _ _ _⟩⟩
theorem r1 (t : Aside0 (Two w g1 h1 g2 h2 b c)) (x : Int) (hx0 : 0 ≤ x) (hx1 : x ≤ 4294967295) (hn : c.length ≤ 262144) (ha : a < 4294967296) :
    Calls Try.prog 24 #[.pointer (some ⟨g2, 0, none⟩), .int .u32 (a : Int), .int .u32 x] w fun e w' => e = .returned (.int .i64 (er (a < c.length))) ∧ Aside0 (Two w' g1 h1 g2 h2 b (st1 c a x)) ∧ Aside0 (Fr h1 h2 w w') := by
  by_cases h : a < c.length
  · refine (rstore1_yes ⟨t.out.m2⟩ x hx0 hx1 hn ha h).mono fun e w' ⟨he, hw⟩ => ⟨by rw [he, er, if_pos h], ?_⟩
    subst hw
    have hg := grown_set (grown_of_below (Below.refl w.heap.size w) (some h2)) a (.int .u8 (x % 256))
    refine ⟨⟨t.out.two ?_ hg⟩, ⟨.of2 hg⟩⟩
    unfold st1
    rw [if_pos h]
    exact t.out.m2.put a (x % 256)
  · refine (rstore1_no ⟨t.out.m2⟩ x hn ha (by omega)).mono fun e w' ⟨he, hw⟩ => ⟨by rw [he, er, if_neg h], ?_⟩
    subst hw
    unfold st1
    rw [if_neg h]
    exact ⟨t, ⟨.refl _ _ _⟩⟩
theorem grown_sets {h : Nat} : ∀ (l : List Value) (a : Nat) (w0 w : World), w0.grownBy w (some h) → w0.grownBy (w.setCells h a l) (some h)
  | [], _, _, _, g => g
  | v :: l, a, w0, w, g => grown_sets l (a + 1) w0 _ (grown_set g a v)
theorem pf (t : Aside0 (Two w g1 h1 g2 h2 b c)) (s : ByteArray) (hsz : s.size ≤ 140737488351232) (hn : b.length ≤ 262144) (h0 : b.length ≠ 0) (ha : a < 4294967296) :
    Calls Try.prog 17 #[.pointer (some ⟨g1, 0, none⟩), .int .u32 (a : Int), .string s] w fun e w' => e = .returned (.int .i64 (er (a + s.size ≤ b.length))) ∧ Aside0 (Two w' g1 h1 g2 h2 (fil b a s) c) ∧ Aside0 (Fr h1 h2 w w') := by
  by_cases h : a + s.size ≤ b.length
  · refine (fill_yes ⟨t.out.m1⟩ s hn ha hsz h0 h).mono fun e w' ⟨he, hw⟩ => ⟨by rw [he, er, if_pos h], ?_⟩
    subst hw
    have hg := grown_sets ((bytesOf s).map (Value.int .u8)) a w w (grown_of_below (Below.refl w.heap.size w) (some h1))
    refine ⟨⟨t.out.one ?_ hg⟩, ⟨.of1 hg⟩⟩
    unfold fil
    rw [if_pos h]
    exact t.out.m1.puts _ _ _ _
  · refine (fill_no s ⟨size ⟨t.out.m1⟩⟩ hn ha hsz (by omega)).mono fun e w' ⟨he, hw⟩ => ⟨by rw [he, er, if_neg h], ?_⟩
    subst hw
    unfold fil
    rw [if_neg h]
    exact ⟨t, ⟨.refl _ _ _⟩⟩
theorem rf (t : Aside0 (Two w g1 h1 g2 h2 b c)) (s : ByteArray) (hsz : s.size ≤ 140737488351232) (hn : c.length ≤ 262144) (ha : a < 4294967296) :
    Calls Try.prog 25 #[.pointer (some ⟨g2, 0, none⟩), .int .u32 (a : Int), .string s] w fun e w' => e = .returned (.int .i64 (er (a + s.size ≤ c.length))) ∧ Aside0 (Two w' g1 h1 g2 h2 b (fil c a s)) ∧ Aside0 (Fr h1 h2 w w') := by
  by_cases h : a + s.size ≤ c.length
  · refine (rfill_yes ⟨t.out.m2⟩ s hn ha hsz h).mono fun e w' ⟨he, hm, hg⟩ => ⟨by rw [he, er, if_pos h], ?_, ⟨.of2 hg⟩⟩
    unfold fil
    rw [if_pos h]
    exact ⟨t.out.two hm hg⟩
  · refine (rfill_no ⟨t.out.m2⟩ s hn ha hsz (by omega)).mono fun e w' ⟨he, hw⟩ => ⟨by rw [he, er, if_neg h], ?_⟩
    subst hw
    unfold fil
    rw [if_neg h]
    exact ⟨t, ⟨.refl _ _ _⟩⟩
end
end Go.Proofs.Ythdkbomoengmpaa.MemA
