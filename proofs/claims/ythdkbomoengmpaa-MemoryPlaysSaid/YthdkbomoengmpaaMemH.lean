/- The law of loads. -/
import Derived.Test.YthdkbomoengmpaaMemG
namespace Go.Proofs.Ythdkbomoengmpaa.MemA
open Go.RowKit Go.Proofs.YthdkbomoengmpaaW.PrintWords
set_option linter.unusedVariables false
set_option linter.unusedSimpArgs false

/-- What lies at a place: as a word, as a byte, as bytes. -/
def l4 (b : List Int) (a : Nat) : Int × Int := if a % 4 = 0 ∧ a + 4 ≤ b.length then (w4 b a, 0) else (0, 1)
def l1 (b : List Int) (a : Nat) : Int × Int := if a < b.length then (b.getD a 0, 0) else (0, 1)
def ls (b : List Int) (a : Nat) (k : Int) : ByteArray × Int := if 0 ≤ k ∧ (a : Int) + k ≤ b.length then (strOfNums ((b.take (a + k.toNat)).drop a), 0) else (⟨#[]⟩, 1)
section
variable {w : World} {g h : Nat} {b : List Int} {a : Nat}
theorem pl4 (m : Aside0 (Mem 46 w g h b)) (hn : b.length ≤ 262144) (ha : a < 4294967296) (hb : Byt b) :
    Calls Try.prog 10 #[.pointer (some ⟨g, 0, none⟩), .int .u32 (a : Int)] w fun e w' => e = .returned (.tuple #[.int .u32 (l4 b a).1, .int .i64 (l4 b a).2]) ∧ ∃ n, w' = w.drewN n := by
  unfold l4
  by_cases h : a % 4 = 0 ∧ a + 4 ≤ b.length
  · rw [if_pos h]; exact load4_yes m hn ha ⟨h.1⟩ h.2 hb
  · rw [if_neg h]; exact (load4_no ⟨size m⟩ hn ha (by omega)).mono fun e w' ⟨he, hw⟩ => ⟨he, 0, hw.symm⟩
theorem rl4 (m : Aside0 (Mem 35 w g h b)) (hn : b.length ≤ 262144) (ha : a < 4294967296) (hb : Byt b) :
    Calls Try.prog 11 #[.pointer (some ⟨g, 0, none⟩), .int .u32 (a : Int)] w fun e w' => e = .returned (.tuple #[.int .u32 (l4 b a).1, .int .i64 (l4 b a).2]) ∧ w = w' := by
  unfold l4
  by_cases h : a % 4 = 0 ∧ a + 4 ≤ b.length
  · rw [if_pos h]; exact rload4_yes m hn ha h.1 h.2 ⟨hb⟩
  · rw [if_neg h]; exact rload4_no m hn ha (by omega)
theorem pl1 (m : Aside0 (Mem 46 w g h b)) (hn : b.length ≤ 262144) (ha : a < 4294967296) (hb : Byt b) :
    Calls Try.prog 12 #[.pointer (some ⟨g, 0, none⟩), .int .u32 (a : Int)] w fun e w' => e = .returned (.tuple #[.int .u32 (l1 b a).1, .int .i64 (l1 b a).2]) ∧ w = w' := by
  unfold l1
  by_cases h : a < b.length
  · rw [if_pos h]; exact load1_yes m hn ha h (hb a).1 (hb a).2
  · rw [if_neg h]; exact load1_no ⟨size m⟩ hn ha (by omega)
theorem rl1 (m : Aside0 (Mem 35 w g h b)) (hn : b.length ≤ 262144) (ha : a < 4294967296) (hb : Byt b) :
    Calls Try.prog 13 #[.pointer (some ⟨g, 0, none⟩), .int .u32 (a : Int)] w fun e w' => e = .returned (.tuple #[.int .u32 (l1 b a).1, .int .i64 (l1 b a).2]) ∧ w = w' := by
  unfold l1
  by_cases h : a < b.length
  · rw [if_pos h]; exact rload1_yes m hn ha h (hb a).1 (hb a).2
  · rw [if_neg h]; exact rload1_no m hn ha (by omega)
theorem pls (m : Aside0 (Mem 46 w g h b)) (k : Int) (hk0 : -9223372036854775808 ≤ k) (hk1 : k ≤ 9223372036854775807) (hn : b.length ≤ 262144) (ha : a < 4294967296) (h0 : b.length ≠ 0) :
    Calls Try.prog 8 #[.pointer (some ⟨g, 0, none⟩), .int .u32 (a : Int), .int .i64 k] w fun e w' => e = .returned (.tuple #[.string (ls b a k).1, .int .i64 (ls b a k).2]) ∧ w = w' := by
  unfold ls
  by_cases h : 0 ≤ k ∧ (a : Int) + k ≤ b.length
  · rw [if_pos h]
    obtain ⟨j, rfl⟩ := Int.eq_ofNat_of_zero_le h.1
    rw [Int.toNat_natCast]
    exact bytes_yes m hn ha h0 (by omega)
  · rw [if_neg h]; exact bytes_no k ⟨size m⟩ hn ha hk0 hk1 (by omega)
theorem rls (m : Aside0 (Mem 35 w g h b)) (k : Int) (hk0 : -9223372036854775808 ≤ k) (hk1 : k ≤ 9223372036854775807) (hn : b.length ≤ 262144) (ha : a < 4294967296) :
    Calls Try.prog 14 #[.pointer (some ⟨g, 0, none⟩), .int .u32 (a : Int), .int .i64 k] w fun e w' => e = .returned (.tuple #[.string (ls b a k).1, .int .i64 (ls b a k).2]) ∧ w = w' := by
  unfold ls
  by_cases h : 0 ≤ k ∧ (a : Int) + k ≤ b.length
  · rw [if_pos h]
    obtain ⟨j, rfl⟩ := Int.eq_ofNat_of_zero_le h.1
    rw [Int.toNat_natCast]
    exact rbytes_yes m hn ha (by omega)
  · rw [if_neg h]; exact rbytes_no m hn ha hk0 hk1 (by omega)
end

set_option maxHeartbeats 8000000 in
set_option maxRecDepth 100000 in
theorem loads_no {w : World} {n : Int} (A : Option Addr) (c : Nat) (l : List A44) (p q : Int) (h : n < 1 ∨ 262144 < n) :
    Calls Try.prog 4 #[.int .i64 n, .slice A l.length c, .agg #[.int .i64 p, .int .i64 q]] w (Yes w) := by
  have hm := fun w => Aside0.mk (made_no (w := w) A c l h)
  clear h
  go_enter Try.func4, Try.ntmps4
  go_wp2_with (first | ((with_reducible refine (hm _).out.mono ?_); rintro e w' ⟨rfl, rfl⟩) | ((with_reducible refine (awake _).mono ?_); rintro e w' ⟨rfl, hb⟩))
  go_ret
  exact ⟨by first | rfl | simp, below_step (below_alloc (Below.refl _ _) _) (by assumption)⟩

set_option maxHeartbeats 8000000 in
set_option maxRecDepth 100000 in
theorem loads_yes {w : World} {n : Nat} {A : Option Addr} (c : Nat) {l : List A44} (p q : Int) (a : Nat) (hpa : p % 4294967296 = (a : Int)) (ha : a < 4294967296) (hk0 : -9223372036854775808 ≤ q) (hk1 : q ≤ 9223372036854775807) (h1 : 1 ≤ n) (h2 : n ≤ 262144) (hl : Aside0 (k44.C w A l.length l)) (hg : Aside0 (∀ x ∈ l, g44 x)) :
    Calls Try.prog 4 #[.int .i64 (n : Int), .slice A l.length c, .agg #[.int .i64 p, .int .i64 q]] w (Yes w) := by
  have hm := Aside0.mk (made_yes (w := w.alloc (.cells #[.int .i64 p, .int .i64 q] 37)) c h1 h2 ⟨Kd.C_alloc hl.out _⟩ hg)
  have hlen : Aside0 ((acts (List.replicate n 0) l).length = n) := ⟨by rw [acts_length, List.length_replicate]⟩
  have hbyt : Aside0 (Byt (acts (List.replicate n 0) l)) := ⟨acts_byt l (byt_made n)⟩
  have hbx := Aside0.mk (blk_new w (.cells #[.int .i64 p, .int .i64 q] 37))
  go_enter Try.func4, Try.ntmps4
  go_wp2_with fail
  (with_reducible refine hm.out.mono ?_)
  rintro e w1 hq
  obtain ⟨g1, e1, g2, e2, rfl, hT, hB, _, _⟩ := hq
  generalize acts (List.replicate n 0) l = b at *
  have c0 : w1.cell? ⟨w.heap.size, 0, none⟩ = some (.int .i64 p) := (hB.cell (p := ⟨w.heap.size, 0, none⟩) (by simp)).trans ((blk_cell hbx.out 0).trans rfl)
  have c1 : w1.cell? ⟨w.heap.size, 1, none⟩ = some (.int .i64 q) := (hB.cell (p := ⟨w.heap.size, 1, none⟩) (by simp)).trans ((blk_cell hbx.out 1).trans rfl)
  have hB := Aside0.mk (below_step (below_alloc (Below.refl _ _) _) hB)
  have hn : b.length ≤ 262144 := by rw [hlen.out]; exact h2
  have hn0 : Aside0 (b.length ≠ 0) := ⟨by rw [hlen.out]; omega⟩
  have m1 := Aside0.mk hT.m1
  have m2 := Aside0.mk hT.m2
  clear hT hm hl hg hlen
  go_wp2_with fail
  (with_reducible refine (pl4 (a := a) m1 hn ha hbyt.out).mono ?_)
  rintro e w2 ⟨rfl, nn, hw⟩
  have m1' : Aside0 (Mem 46 w2 g1 e1 b) := ⟨hw ▸ m1.out.drewN nn⟩
  have m2' : Aside0 (Mem 35 w2 g2 e2 b) := ⟨hw ▸ m2.out.drewN nn⟩
  have hB' : Aside0 (Below w.heap.size w w2) := ⟨hw ▸ pw_below_drewN hB.out nn⟩
  have d0 : w2.cell? ⟨w.heap.size, 0, none⟩ = some (.int .i64 p) := hw ▸ c0
  have d1 : w2.cell? ⟨w.heap.size, 1, none⟩ = some (.int .i64 q) := hw ▸ c1
  clear hw m1 m2 hB c0 c1
  go_wp2_with (first | ((with_reducible refine (rl4 (a := a) m2' hn ha hbyt.out).mono ?_); rintro e w' ⟨rfl, rfl⟩) | ((with_reducible refine (pl1 (a := a) m1' hn ha hbyt.out).mono ?_); rintro e w' ⟨rfl, rfl⟩) | ((with_reducible refine (rl1 (a := a) m2' hn ha hbyt.out).mono ?_); rintro e w' ⟨rfl, rfl⟩) | ((with_reducible refine (pls (a := a) m1' q hk0 hk1 hn ha hn0.out).mono ?_); rintro e w' ⟨rfl, rfl⟩) | ((with_reducible refine (rls (a := a) m2' q hk0 hk1 hn ha).mono ?_); rintro e w' ⟨rfl, rfl⟩) | ((with_reducible refine (awake _).mono ?_); rintro e w' ⟨rfl, hb⟩))
  go_ret
  exact ⟨by first | rfl | simp, below_step hB'.out (by assumption)⟩
end Go.Proofs.Ythdkbomoengmpaa.MemA
