/- The laws of memories: plays and loads. -/
import Derived.Test.YthdkbomoengmpaaMemF
namespace Go.Proofs.Ythdkbomoengmpaa.MemA
open Go.RowKit Go.Proofs.YthdkbomoengmpaaW.PrintWords
set_option linter.unusedVariables false
set_option linter.unusedSimpArgs false

def Yes (w : World) (e : Ending) (w' : World) : Prop := e = .returned (.bool true) ∧ Below w.heap.size w w'

set_option maxHeartbeats 8000000 in
set_option maxRecDepth 100000 in
theorem awake (w : World) : Calls Try.prog 7 #[] w (Yes w) := by
  have hn : Aside0 (Calls Try.prog 18 #[.int .i64 8] w (Made 46 8 w)) := ⟨new_yes (n := 8) (by omega) (by omega)⟩
  go_enter Try.func7, Try.ntmps7
  go_wp2_with fail
  (with_reducible refine hn.out.mono ?_)
  rintro e w1 hq
  obtain ⟨g, h, rfl, m, hg, hh, hb⟩ := hq
  have m := Aside0.mk m
  have hb := Aside0.mk hb
  have hh := Aside0.mk hh
  have h4 : Aside0 (Calls Try.prog 15 #[.pointer (some ⟨g, 0, none⟩), .int .u32 4, .int .u32 16909060] w1 fun e w' => e = .returned (.int .i64 0) ∧ w' = (((w1.setCell ⟨h, 4, none⟩ (.int .u8 (16909060 % 256))).setCell ⟨h, 4 + 1, none⟩ (.int .u8 (16909060 / 256 % 256))).setCell ⟨h, 4 + 2, none⟩ (.int .u8 (16909060 / 65536 % 256))).setCell ⟨h, 4 + 3, none⟩ (.int .u8 (16909060 / 16777216))) :=
    ⟨store4_yes (a := 4) m 16909060 (by omega) (by omega) (by simp) (by omega) ⟨rfl⟩ (by simp)⟩
  clear hn hg
  go_wp2_with fail
  (with_reducible refine h4.out.mono ?_)
  rintro e w2 ⟨rfl, hw2⟩
  have m2 : Aside0 (Mem 46 w2 g h (((((List.replicate 8 (0 : Int)).set 4 (16909060 % 256)).set (4 + 1) (16909060 / 256 % 256)).set (4 + 2) (16909060 / 65536 % 256)).set (4 + 3) (16909060 / 16777216))) := by
    rw [hw2]
    exact ⟨(((m.out.put 4 _).put (4 + 1) _).put (4 + 2) _).put (4 + 3) _⟩
  have hb2 : Aside0 (Below w.heap.size w w2) := by
    rw [hw2]
    exact ⟨((((hb.out.setCell (by exact hh.out) _).setCell (by exact hh.out) _).setCell (by exact hh.out) _).setCell (by exact hh.out) _)⟩
  have h1 : Aside0 (Calls Try.prog 12 #[.pointer (some ⟨g, 0, none⟩), .int .u32 4] w2 fun e w' => e = .returned (.tuple #[.int .u32 4, .int .i64 0]) ∧ w2 = w') :=
    ⟨load1_yes (a := 4) m2 (by simp) (by omega) (by simp) (by decide) (by decide)⟩
  clear h4 hw2 m hb
  go_wp2_with ((with_reducible refine h1.out.mono ?_); rintro e w' ⟨rfl, rfl⟩)
  go_ret
  exact ⟨by first | rfl | simp, hb2.out⟩

theorem strOf_full (b : List Int) (n : Nat) (h : b.length = n) : (b.take (0 + n)).drop 0 = b := by
  rw [Nat.zero_add, List.drop_zero, List.take_of_length_le (by omega)]

set_option maxHeartbeats 8000000 in
set_option maxRecDepth 100000 in
theorem plays_no {w : World} {n : Int} (A : Option Addr) (c : Nat) (l : List A44) (h : n < 1 ∨ 262144 < n) :
    Calls Try.prog 3 #[.int .i64 n, .slice A l.length c] w (Yes w) := by
  have hm := Aside0.mk (made_no (w := w) A c l h)
  clear h
  go_enter Try.func3, Try.ntmps3
  go_wp2_with (first | ((with_reducible refine hm.out.mono ?_); rintro e w' ⟨rfl, rfl⟩) | ((with_reducible refine (awake _).mono ?_); rintro e w' ⟨rfl, hb⟩))
  go_ret
  exact ⟨by first | rfl | simp, by assumption⟩

set_option maxHeartbeats 8000000 in
set_option maxRecDepth 100000 in
theorem plays_yes {w : World} {n : Nat} {A : Option Addr} (c : Nat) {l : List A44} (h1 : 1 ≤ n) (h2 : n ≤ 262144) (hl : Aside0 (k44.C w A l.length l)) (hg : Aside0 (∀ x ∈ l, g44 x)) :
    Calls Try.prog 3 #[.int .i64 (n : Int), .slice A l.length c] w (Yes w) := by
  have hm := Aside0.mk (made_yes c h1 h2 hl hg)
  have hlen : Aside0 ((acts (List.replicate n 0) l).length = n) := ⟨by rw [acts_length, List.length_replicate]⟩
  go_enter Try.func3, Try.ntmps3
  go_wp2_with fail
  (with_reducible refine hm.out.mono ?_)
  rintro e w1 hq
  obtain ⟨g1, e1, g2, e2, rfl, hT, hB, _, _⟩ := hq
  generalize acts (List.replicate n 0) l = b at *
  have hB := Aside0.mk hB
  have hsz : Aside0 (Calls Try.prog 9 #[.pointer (some ⟨g1, 0, none⟩)] w1 fun e w' => e = .returned (.int .i64 n) ∧ w1 = w') := ⟨by have := size ⟨hT.m1⟩; rw [hlen.out] at this; exact this⟩
  have hby : Aside0 (Calls Try.prog 8 #[.pointer (some ⟨g1, 0, none⟩), .int .u32 0, .int .i64 (n : Int)] w1 fun e w' => e = .returned (.tuple #[.string (strOfNums b), .int .i64 0]) ∧ w1 = w') := ⟨by
    have := bytes_yes (a := 0) (k := n) ⟨hT.m1⟩ (by rw [hlen.out]; exact h2) (by omega) (by rw [hlen.out]; omega) (by rw [hlen.out]; omega)
    rw [strOf_full b n hlen.out] at this
    exact this⟩
  have hc2 := hT.m2.c0
  rw [hlen.out] at hc2
  have hcv0 := Kd.C_string (P := Try.prog) (src := 33) (dst := 9) (e := 5) (c := n) Try.underlying33 Try.underlying5 Try.underlying9 (hT.m2.C (by rw [hlen.out]; omega))
  rw [hlen.out] at hcv0
  clear hT hm hlen hl hg
  generalize strOfNums b = s at *
  go_wp2_with (first | ((with_reducible refine hby.out.mono ?_); rintro e w' ⟨rfl, rfl⟩) | ((with_reducible refine hsz.out.mono ?_); rintro e w' ⟨rfl, rfl⟩) | ((with_reducible refine (awake _).mono ?_); rintro e w' ⟨rfl, hb⟩))
  go_ret
  exact ⟨by first | rfl | simp, below_step hB.out (by assumption)⟩
end Go.Proofs.Ythdkbomoengmpaa.MemA
