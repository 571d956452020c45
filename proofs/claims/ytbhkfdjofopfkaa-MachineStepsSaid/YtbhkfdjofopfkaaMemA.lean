/- The program's memory: its size, a byte, a word. -/
import Derived.Test.YtbhkfdjofopfkaaProg
import Derived.Test.YtbhkfdjofopfkaaWWords
import Derived.Lib.Hide
import Derived.Outline
import Derived.WalkKit
import Derived.KernelRfl
import Derived.WalkSpells
import Derived.Lib.SliceRun
import Derived.Lib.EndianBits
import Derived.WalkLawsBesides
import Derived.Deep.QuietTactic
import Derived.BigQuiet
namespace Go.Proofs.Ytbhkfdjofopfkaa.MemA
open Go.RowKit Go.Proofs.YtbhkfdjofopfkaaW.PrintWords
set_option linter.unusedVariables false
set_option linter.unusedSimpArgs false

/-- A memory: the block g of its struct (type T), the block h of its bytes. -/
structure Mem (T : Nat) (w : World) (g h : Nat) (b : List Int) : Prop where
  cell : w.heap[g]? = some (.cells #[.slice (some ⟨h, 0, none⟩) b.length b.length] T (0, 0))
  row : w.heap[h]? = some (.cells (nums .u8 b).toArray 5 (0, 0))
  ne : g ≠ h
theorem Mem.c0 {T : Nat} {w : World} {g h : Nat} {b : List Int} (m : Mem T w g h b) : w.cell? ⟨g, 0, none⟩ = some (.slice (some ⟨h, 0, none⟩) b.length b.length) := (blk_cell m.cell 0).trans rfl
theorem Mem.at_ {T : Nat} {w : World} {g h : Nat} {b : List Int} (m : Mem T w g h b) (i : Nat) (hi : i < b.length) : w.cell? ⟨h, i, none⟩ = some (.int .u8 (b.getD i 0)) := by
  rw [blk_cell m.row i]
  simp [nums, List.getD_eq_getElem?_getD, List.getElem?_eq_getElem hi]
theorem Mem.fz {T : Nat} {w : World} {g h : Nat} {b : List Int} (m : Mem T w g h b) (i : Nat) : w.frozen? ⟨h, i, none⟩ = false := blk_frozen m.row i
theorem Mem.put {T : Nat} {w : World} {g h : Nat} {b : List Int} (m : Mem T w g h b) (i : Nat) (x : Int) : Mem T (w.setCell ⟨h, i, none⟩ (.int .u8 x)) g h (b.set i x) := by
  refine ⟨?_, ?_, m.ne⟩
  · rw [List.length_set]
    exact blk_far m.cell m.ne _
  · rw [blk_set m.row i _]
    simp [nums, List.map_set]
theorem Mem.far {T : Nat} {w : World} {g h : Nat} {b : List Int} (m : Mem T w g h b) {p : Addr} (hg : g ≠ p.block) (hh : h ≠ p.block) (u : Value) : Mem T (w.setCell p u) g h b := ⟨blk_far m.cell hg u, blk_far m.row hh u, m.ne⟩
theorem Mem.grown {T : Nat} {w w' : World} {g h : Nat} {b : List Int} {row : Option Nat} (m : Mem T w g h b) (hg : w.grownBy w' row) (h1 : some g ≠ row) (h2 : some h ≠ row) : Mem T w' g h b := ⟨blk_grown m.cell hg h1, blk_grown m.row hg h2, m.ne⟩
theorem Mem.below {T : Nat} {w w' : World} {g h : Nat} {b : List Int} (m : Mem T w g h b) (hb : Below w.heap.size w w') : Mem T w' g h b := m.grown (grown_of_below hb none) (by simp) (by simp)

/-- How many bytes a pointer's memory has, as Size tells it: w stays. -/
def Sz (p : Value) (n : Nat) (w : World) : Prop := Calls Try.prog 47 #[p] w fun e w' => e = .returned (.int .i64 n) ∧ w = w'
theorem Sz.call {p : Value} {n : Nat} {w : World} (h : Sz p n w) : Calls Try.prog 47 #[p] w fun e w' => e = .returned (.int .i64 n) ∧ w = w' := h

set_option maxHeartbeats 4000000 in
set_option maxRecDepth 100000 in
theorem size {w : World} {g h : Nat} {b : List Int} (m : Aside0 (Mem 94 w g h b)) : Sz (.pointer (some ⟨g, 0, none⟩)) b.length w := by
  have hc := m.out.c0
  unfold Sz
  go_enter Try.func47, Try.ntmps47
  go_wp2
  go_ret
  exact ⟨rfl, rfl⟩
set_option maxHeartbeats 4000000 in
set_option maxRecDepth 100000 in
theorem size_nil (w : World) : Sz (.pointer none) 0 w := by
  unfold Sz
  go_enter Try.func47, Try.ntmps47
  go_wp2
  go_ret
  exact ⟨rfl, rfl⟩
set_option maxHeartbeats 4000000 in
set_option maxRecDepth 100000 in
theorem size_empty {w : World} {g : Nat} (hc : w.cell? ⟨g, 0, none⟩ = some (.slice none 0 0)) : Sz (.pointer (some ⟨g, 0, none⟩)) 0 w := by
  unfold Sz
  go_enter Try.func47, Try.ntmps47
  go_wp2
  go_ret
  exact ⟨rfl, rfl⟩

set_option maxHeartbeats 4000000 in
set_option maxRecDepth 100000 in
theorem load1_no {w : World} {p : Value} {n a : Nat} (hs : Aside0 (Sz p n w)) (hn : n ≤ 262144) (ha : a < 4294967296) (h : n ≤ a) :
    Calls Try.prog 51 #[p, .int .u32 (a : Int)] w fun e w' => e = .returned (.tuple #[.int .u32 0, .int .i64 1]) ∧ w = w' := by
  go_enter Try.func51, Try.ntmps51
  go_wp2_with ((with_reducible refine (Sz.call hs.out).mono ?_); rintro e w' ⟨rfl, rfl⟩)
  go_ret2
  exact ⟨rfl, rfl⟩
set_option maxHeartbeats 4000000 in
set_option maxRecDepth 100000 in
theorem load1_yes {w : World} {g h : Nat} {b : List Int} (m : Aside0 (Mem 94 w g h b)) {a : Nat} (hn : b.length ≤ 262144) (ha : a < 4294967296) (hlt : a < b.length) (hb : 0 ≤ b.getD a 0) (hb2 : b.getD a 0 ≤ 255) :
    Calls Try.prog 51 #[.pointer (some ⟨g, 0, none⟩), .int .u32 (a : Int)] w fun e w' => e = .returned (.tuple #[.int .u32 (b.getD a 0), .int .i64 0]) ∧ w = w' := by
  have hs := Aside0.mk (size m)
  have hc := m.out.c0
  have hx := m.out.at_ a hlt
  have hap := add_plain h a
  generalize b.getD a 0 = x at *
  go_enter Try.func51, Try.ntmps51
  go_wp2_with ((with_reducible refine (Sz.call hs.out).mono ?_); rintro e w' ⟨rfl, rfl⟩)
  go_ret2
  exact ⟨rfl, rfl⟩
set_option maxHeartbeats 4000000 in
set_option maxRecDepth 100000 in
theorem store1_no {w : World} {p : Value} {n a : Nat} (x : Int) (hs : Aside0 (Sz p n w)) (hn : n ≤ 262144) (ha : a < 4294967296) (h : n ≤ a) :
    Calls Try.prog 53 #[p, .int .u32 (a : Int), .int .u32 x] w fun e w' => e = .returned (.int .i64 1) ∧ w = w' := by
  go_enter Try.func53, Try.ntmps53
  go_wp2_with ((with_reducible refine (Sz.call hs.out).mono ?_); rintro e w' ⟨rfl, rfl⟩)
  go_ret
  exact ⟨rfl, rfl⟩
set_option maxHeartbeats 4000000 in
set_option maxRecDepth 100000 in
theorem store1_yes {w : World} {g h : Nat} {b : List Int} (m : Aside0 (Mem 94 w g h b)) {a : Nat} (x : Int) (hx0 : 0 ≤ x) (hx1 : x ≤ 4294967295) (hn : b.length ≤ 262144) (ha : a < 4294967296) (hlt : a < b.length) :
    Calls Try.prog 53 #[.pointer (some ⟨g, 0, none⟩), .int .u32 (a : Int), .int .u32 x] w fun e w' => e = .returned (.int .i64 0) ∧ w' = w.setCell ⟨h, a, none⟩ (.int .u8 (x % 256)) := by
  have hs := Aside0.mk (size m)
  have hc := m.out.c0
  have hx := m.out.at_ a hlt
  have hf := m.out.fz a
  have hap := add_plain h a
  generalize b.getD a 0 = y at *
  go_enter Try.func53, Try.ntmps53
  go_wp2_with ((with_reducible refine (Sz.call hs.out).mono ?_); rintro e w' ⟨rfl, rfl⟩)
  go_ret
  exact ⟨rfl, rfl⟩
set_option maxHeartbeats 4000000 in
set_option maxRecDepth 100000 in
theorem word_no {w : World} {p : Value} {n a : Nat} (hs : Aside0 (Sz p n w)) (hn : n ≤ 262144) (ha : a < 4294967296) (h : a % 4 ≠ 0 ∨ n < a + 4) :
    Calls Try.prog 69 #[p, .int .u32 (a : Int)] w fun e w' => e = .returned (.slice none 0 0) ∧ w = w' := by
  by_cases h4 : a % 4 = 0
  · have h4' : ((a : Int) % 4 != 0) = false := by simp; omega
    have hlt : n < a + 4 := by omega
    clear h h4
    go_enter Try.func69, Try.ntmps69
    go_wp2_with ((with_reducible refine (Sz.call hs.out).mono ?_); rintro e w' ⟨rfl, rfl⟩)
    go_ret
    exact ⟨rfl, rfl⟩
  · have h4' : ((a : Int) % 4 != 0) = true := by simp; omega
    clear h
    go_enter Try.func69, Try.ntmps69
    go_wp2
    go_ret
    exact ⟨rfl, rfl⟩
set_option maxHeartbeats 4000000 in
set_option maxRecDepth 100000 in
theorem word_yes {w : World} {g h : Nat} {b : List Int} (m : Aside0 (Mem 94 w g h b)) {a : Nat} (hn : b.length ≤ 262144) (ha : a < 4294967296) (h4 : a % 4 = 0) (hlt : a + 4 ≤ b.length) :
    Calls Try.prog 69 #[.pointer (some ⟨g, 0, none⟩), .int .u32 (a : Int)] w fun e w' => e = .returned (.slice (some ⟨h, a, none⟩) 4 (b.length - a)) ∧ w = w' := by
  have hs := Aside0.mk (size m)
  have hc := m.out.c0
  have hap := add_plain h a
  have h4' : ((a : Int) % 4 != 0) = false := by simp; omega
  clear h4
  go_enter Try.func69, Try.ntmps69
  go_wp2_with ((with_reducible refine (Sz.call hs.out).mono ?_); rintro e w' ⟨rfl, rfl⟩)
  go_ret
  refine ⟨?_, rfl⟩
  show Ending.returned (.slice (some ⟨h, a, none⟩) (a + 4 - a) (b.length - a)) = _
  rw [show a + 4 - a = 4 by omega]
set_option maxHeartbeats 4000000 in
set_option maxRecDepth 100000 in
theorem load4_no {w : World} {p : Value} {n a : Nat} (hs : Aside0 (Sz p n w)) (hn : n ≤ 262144) (ha : a < 4294967296) (h : a % 4 ≠ 0 ∨ n < a + 4) :
    Calls Try.prog 50 #[p, .int .u32 (a : Int)] w fun e w' => e = .returned (.tuple #[.int .u32 0, .int .i64 1]) ∧ w = w' := by
  have e1 := fun (W : World) => Lib.run_eql_slice_nil (P := Try.prog) W 46 5 none 0 0 0 0 Try.underlying46
  go_enter Try.func50, Try.ntmps50
  go_wp2_with ((with_reducible refine (word_no hs hn ha h).mono ?_); rintro e w' ⟨rfl, rfl⟩)
  go_ret2
  exact ⟨rfl, rfl⟩
set_option maxHeartbeats 4000000 in
set_option maxRecDepth 100000 in
theorem store4_no {w : World} {p : Value} {n a : Nat} (x : Int) (hs : Aside0 (Sz p n w)) (hn : n ≤ 262144) (ha : a < 4294967296) (h : a % 4 ≠ 0 ∨ n < a + 4) :
    Calls Try.prog 52 #[p, .int .u32 (a : Int), .int .u32 x] w fun e w' => e = .returned (.int .i64 1) ∧ w = w' := by
  have e1 := fun (W : World) => Lib.run_eql_slice_nil (P := Try.prog) W 46 5 none 0 0 0 0 Try.underlying46
  go_enter Try.func52, Try.ntmps52
  go_wp2_with ((with_reducible refine (word_no hs hn ha h).mono ?_); rintro e w' ⟨rfl, rfl⟩)
  go_ret
  exact ⟨rfl, rfl⟩

theorem add1 (h a j : Nat) : (⟨h, a, none⟩ : Addr).add j = ⟨h, a + j, none⟩ := by unfold Addr.add; split <;> simp_all
/-- The word whose bytes lie from a place on. -/
def w4 (b : List Int) (a : Nat) : Int := b.getD a 0 + 256 * b.getD (a + 1) 0 + 65536 * b.getD (a + 2) 0 + 16777216 * b.getD (a + 3) 0
set_option maxHeartbeats 4000000 in
set_option maxRecDepth 100000 in
theorem load4_yes {w : World} {g h : Nat} {b : List Int} (m : Aside0 (Mem 94 w g h b)) {a : Nat} (hn : b.length ≤ 262144) (ha : a < 4294967296) (h4 : Aside0 (a % 4 = 0)) (hlt : a + 4 ≤ b.length) (hb : ∀ i, 0 ≤ b.getD i 0 ∧ b.getD i 0 ≤ 255) :
    Calls Try.prog 50 #[.pointer (some ⟨g, 0, none⟩), .int .u32 (a : Int)] w fun e w' => e = .returned (.tuple #[.int .u32 (w4 b a), .int .i64 0]) ∧ ∃ n, w' = w.drewN n := by
  have x0 := m.out.at_ a (by omega)
  have x1 := m.out.at_ (a + 1) (by omega)
  have x2 := m.out.at_ (a + 2) (by omega)
  have x3 := m.out.at_ (a + 3) (by omega)
  obtain ⟨b00, b01⟩ := hb a
  obtain ⟨b10, b11⟩ := hb (a + 1)
  obtain ⟨b20, b21⟩ := hb (a + 2)
  obtain ⟨b30, b31⟩ := hb (a + 3)
  have hW : Aside0 (w4 b a = b.getD a 0 + 256 * b.getD (a + 1) 0 + 65536 * b.getD (a + 2) 0 + 16777216 * b.getD (a + 3) 0) := ⟨rfl⟩
  generalize b.getD a 0 = y0 at *
  generalize b.getD (a + 1) 0 = y1 at *
  generalize b.getD (a + 2) 0 = y2 at *
  generalize b.getD (a + 3) 0 = y3 at *
  clear hb
  have hap := add1 h a
  have e1 := fun (W : World) => Lib.run_eql_slice_nil (P := Try.prog) W 46 5 (some ⟨h, a, none⟩) 4 (b.length - a) 0 0 Try.underlying46
  go_enter Try.func50, Try.ntmps50
  go_wp2_with ((with_reducible refine (word_yes m hn ha h4.out hlt).mono ?_); rintro e w' ⟨rfl, rfl⟩)
  go_quiet (fail)
  go_wp2
  go_ret2
  refine ⟨?_, _, rfl⟩
  rw [hW.out]
  show Ending.returned (.tuple #[.int .u32 (bits .or .u32 (bits .or .u32 (bits .or .u32 y0 (y1 * 256)) (y2 * 65536)) (y3 * 16777216)), .int .i64 0]) = _
  rw [u32_or8 y0 (y1 * 256) (by omega) (by omega) (by omega) (by omega) (by omega), u32_or16 _ (y2 * 65536) (by omega) (by omega) (by omega) (by omega) (by omega), u32_or24 _ (y3 * 16777216) (by omega) (by omega) (by omega) (by omega) (by omega), show y0 + y1 * 256 + y2 * 65536 + y3 * 16777216 = y0 + 256 * y1 + 65536 * y2 + 16777216 * y3 by omega]
set_option maxHeartbeats 4000000 in
set_option maxRecDepth 100000 in
theorem store4_yes {w : World} {g h : Nat} {b : List Int} (m : Aside0 (Mem 94 w g h b)) {a : Nat} (x : Int) (hx0 : 0 ≤ x) (hx1 : x ≤ 4294967295) (hn : b.length ≤ 262144) (ha : a < 4294967296) (h4 : Aside0 (a % 4 = 0)) (hlt : a + 4 ≤ b.length) :
    Calls Try.prog 52 #[.pointer (some ⟨g, 0, none⟩), .int .u32 (a : Int), .int .u32 x] w fun e w' => e = .returned (.int .i64 0) ∧ w' = (((w.setCell ⟨h, a, none⟩ (.int .u8 (x % 256))).setCell ⟨h, a + 1, none⟩ (.int .u8 (x / 256 % 256))).setCell ⟨h, a + 2, none⟩ (.int .u8 (x / 65536 % 256))).setCell ⟨h, a + 3, none⟩ (.int .u8 (x / 16777216)) := by
  have x0 := m.out.at_ a (by omega)
  have x1 := m.out.at_ (a + 1) (by omega)
  have x2 := m.out.at_ (a + 2) (by omega)
  have x3 := m.out.at_ (a + 3) (by omega)
  have f0 := m.out.fz a
  have f1 := m.out.fz (a + 1)
  have f2 := m.out.fz (a + 2)
  have f3 := m.out.fz (a + 3)
  generalize b.getD a 0 = y0 at *
  generalize b.getD (a + 1) 0 = y1 at *
  generalize b.getD (a + 2) 0 = y2 at *
  generalize b.getD (a + 3) 0 = y3 at *
  have hap := add1 h a
  have e1 := fun (W : World) => Lib.run_eql_slice_nil (P := Try.prog) W 46 5 (some ⟨h, a, none⟩) 4 (b.length - a) 0 0 Try.underlying46
  go_enter Try.func52, Try.ntmps52
  go_wp2_with ((with_reducible refine (word_yes m hn ha h4.out hlt).mono ?_); rintro e w' ⟨rfl, rfl⟩)
  go_ret
  exact ⟨rfl, rfl⟩
end Go.Proofs.Ytbhkfdjofopfkaa.MemA
