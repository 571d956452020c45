/- The reference's memory. -/
import Derived.Test.YtbhkfdjofopfkaaMemB
import Derived.StillTailTactics
import Derived.IntWalk
namespace Go.Proofs.Ytbhkfdjofopfkaa.MemA
open Go.RowKit Go.Proofs.YtbhkfdjofopfkaaW.PrintWords
set_option linter.unusedVariables false
set_option linter.unusedSimpArgs false

set_option maxHeartbeats 4000000 in
set_option maxRecDepth 100000 in
theorem there_yes {w : World} {g h : Nat} {b : List Int} (m : Aside0 (Mem 63 w g h b)) {a n : Nat} (hn : b.length ≤ 262144) (ha : a < 4294967296) (hlt : a + n ≤ b.length) :
    Calls Try.prog 56 #[.pointer (some ⟨g, 0, none⟩), .int .u32 (a : Int), .int .i64 (n : Int)] w fun e w' => e = .returned (.bool true) ∧ w = w' := by
  have hc := m.out.c0
  go_enter Try.func56, Try.ntmps56
  go_wp2
  go_ret
  exact ⟨by first | rfl | (simp; omega), rfl⟩
set_option maxHeartbeats 4000000 in
set_option maxRecDepth 100000 in
theorem there_no {w : World} {g h : Nat} {b : List Int} (m : Aside0 (Mem 63 w g h b)) {a : Nat} {n : Int} (hn : b.length ≤ 262144) (ha : a < 4294967296) (hn0 : -9223372036854775808 ≤ n) (hn1 : n ≤ 9223372036854775807) (hlt : n < 0 ∨ (b.length : Int) < a + n) :
    Calls Try.prog 56 #[.pointer (some ⟨g, 0, none⟩), .int .u32 (a : Int), .int .i64 n] w fun e w' => e = .returned (.bool false) ∧ w = w' := by
  have hc := m.out.c0
  by_cases h0 : n < 0
  · clear hlt
    go_enter Try.func56, Try.ntmps56
    go_wp2
    go_ret
    exact ⟨by first | rfl | (simp; omega), rfl⟩
  · have h1 : (b.length : Int) < a + n := by omega
    clear hlt
    by_cases h2 : b.length < a
    · go_enter Try.func56, Try.ntmps56
      go_wp2
      go_ret
      exact ⟨by first | rfl | (simp; omega), rfl⟩
    · go_enter Try.func56, Try.ntmps56
      go_wp2
      go_ret
      exact ⟨by first | rfl | (simp; omega), rfl⟩

set_option maxHeartbeats 4000000 in
set_option maxRecDepth 100000 in
theorem rload1_no {w : World} {g h : Nat} {b : List Int} (m : Aside0 (Mem 63 w g h b)) {a : Nat} (hn : b.length ≤ 262144) (ha : a < 4294967296) (hlt : b.length ≤ a) :
    Calls Try.prog 62 #[.pointer (some ⟨g, 0, none⟩), .int .u32 (a : Int)] w fun e w' => e = .returned (.tuple #[.int .u32 0, .int .i64 1]) ∧ w = w' := by
  go_enter Try.func62, Try.ntmps62
  go_wp2_with ((with_reducible refine (there_no m hn ha (n := 1) (by omega) (by omega) (.inr (by omega))).mono ?_); rintro e w' ⟨rfl, rfl⟩)
  go_ret2
  exact ⟨rfl, rfl⟩
set_option maxHeartbeats 4000000 in
set_option maxRecDepth 100000 in
theorem rload1_yes {w : World} {g h : Nat} {b : List Int} (m : Aside0 (Mem 63 w g h b)) {a : Nat} (hn : b.length ≤ 262144) (ha : a < 4294967296) (hlt : a < b.length) (hb : 0 ≤ b.getD a 0) (hb2 : b.getD a 0 ≤ 255) :
    Calls Try.prog 62 #[.pointer (some ⟨g, 0, none⟩), .int .u32 (a : Int)] w fun e w' => e = .returned (.tuple #[.int .u32 (b.getD a 0), .int .i64 0]) ∧ w = w' := by
  have hth : Aside0 (Calls Try.prog 56 #[.pointer (some ⟨g, 0, none⟩), .int .u32 (a : Int), .int .i64 1] w fun e w' => e = .returned (.bool true) ∧ w = w') := ⟨there_yes m hn ha (n := 1) (by omega)⟩
  have hc := m.out.c0
  have hx := m.out.at_ a hlt
  have hap := add_plain h a
  generalize b.getD a 0 = x at *
  go_enter Try.func62, Try.ntmps62
  go_wp2_with ((with_reducible refine hth.out.mono ?_); rintro e w' ⟨rfl, rfl⟩)
  go_ret2
  exact ⟨rfl, rfl⟩

set_option maxHeartbeats 4000000 in
set_option maxRecDepth 100000 in
theorem rstore1_no {w : World} {g h : Nat} {b : List Int} (m : Aside0 (Mem 63 w g h b)) {a : Nat} (x : Int) (hn : b.length ≤ 262144) (ha : a < 4294967296) (hlt : b.length ≤ a) :
    Calls Try.prog 64 #[.pointer (some ⟨g, 0, none⟩), .int .u32 (a : Int), .int .u32 x] w fun e w' => e = .returned (.int .i64 1) ∧ w = w' := by
  go_enter Try.func64, Try.ntmps64
  go_wp2_with ((with_reducible refine (there_no m hn ha (n := 1) (by omega) (by omega) (.inr (by omega))).mono ?_); rintro e w' ⟨rfl, rfl⟩)
  go_ret
  exact ⟨rfl, rfl⟩
set_option maxHeartbeats 4000000 in
set_option maxRecDepth 100000 in
theorem rstore1_yes {w : World} {g h : Nat} {b : List Int} (m : Aside0 (Mem 63 w g h b)) {a : Nat} (x : Int) (hx0 : 0 ≤ x) (hx1 : x ≤ 4294967295) (hn : b.length ≤ 262144) (ha : a < 4294967296) (hlt : a < b.length) :
    Calls Try.prog 64 #[.pointer (some ⟨g, 0, none⟩), .int .u32 (a : Int), .int .u32 x] w fun e w' => e = .returned (.int .i64 0) ∧ w' = w.setCell ⟨h, a, none⟩ (.int .u8 (x % 256)) := by
  have hth : Aside0 (Calls Try.prog 56 #[.pointer (some ⟨g, 0, none⟩), .int .u32 (a : Int), .int .i64 1] w fun e w' => e = .returned (.bool true) ∧ w = w') := ⟨there_yes m hn ha (n := 1) (by omega)⟩
  have hc := m.out.c0
  have hx := m.out.at_ a hlt
  have hf := m.out.fz a
  have hap := add_plain h a
  generalize b.getD a 0 = y at *
  go_enter Try.func64, Try.ntmps64
  go_wp2_with ((with_reducible refine hth.out.mono ?_); rintro e w' ⟨rfl, rfl⟩)
  go_ret
  exact ⟨rfl, rfl⟩

set_option maxHeartbeats 4000000 in
set_option maxRecDepth 100000 in
theorem rnew_no {w : World} {n : Int} (h : n < 1 ∨ 262144 < n) :
    Calls Try.prog 38 #[.int .i64 n] w fun e w' => e = .returned (.tuple #[.pointer none, .int .i64 1]) ∧ w = w' := by
  by_cases h1 : n < 1
  · clear h
    go_enter Try.func38, Try.ntmps38
    go_wp2
    go_ret2
    exact ⟨rfl, rfl⟩
  · have h2 : 262144 < n := by omega
    clear h
    go_enter Try.func38, Try.ntmps38
    go_wp2
    go_ret2
    exact ⟨rfl, rfl⟩
set_option maxHeartbeats 4000000 in
set_option maxRecDepth 100000 in
theorem rnew_yes {w : World} {n : Nat} (h1 : 1 ≤ n) (h2 : n ≤ 262144) : Calls Try.prog 38 #[.int .i64 (n : Int)] w (Made 63 n w) := by
  have hmk := print_make (P := Try.prog) 46 5 .u8 1 Try.underlying46 info5 (by decide) n (by omega)
  go_enter Try.func38, Try.ntmps38
  go_wp2
  go_ret2
  have hm : madeCells #[.int .u8 0] n = (nums .u8 (List.replicate n 0)).toArray := by
    apply Array.ext
    · simp [size_madeCells, nums]
    · intro i h1 h2
      simp [madeCells, nums]
      rw [show i % 1 = 0 by omega]
      rfl
  have hsz : (w.alloc (Obj.cells (madeCells #[.int .u8 0] n) 5)).heap.size = w.heap.size + 1 := by simp
  refine ⟨w.heap.size + 1, w.heap.size, rfl, ⟨?_, ?_, by omega⟩, by omega, by omega, below_alloc (below_alloc (Below.refl _ _) _) _⟩
  · have h := blk_new (w.alloc (Obj.cells (madeCells #[.int .u8 0] n) 5)) (.cells #[.slice (some ⟨w.heap.size, 0, none⟩) n n] 63)
    rw [hsz] at h
    rw [List.length_replicate]
    exact h
  · have h := blk_alloc (blk_new w (Obj.cells (madeCells #[.int .u8 0] n) 5)) (.cells #[.slice (some ⟨w.heap.size, 0, none⟩) n n] 63)
    rw [hm] at h ⊢
    exact h
set_option maxHeartbeats 4000000 in
set_option maxRecDepth 100000 in
theorem rfill_no {w : World} {g h : Nat} {b : List Int} (m : Aside0 (Mem 63 w g h b)) {a : Nat} (s : ByteArray) (hn : b.length ≤ 262144) (ha : a < 4294967296) (hsz : s.size ≤ 140737488351232) (hlt : b.length < a + s.size) :
    Calls Try.prog 39 #[.pointer (some ⟨g, 0, none⟩), .int .u32 (a : Int), .string s] w fun e w' => e = .returned (.int .i64 1) ∧ w = w' := by
  have hth := Aside0.mk (there_no m hn ha (n := (s.size : Int)) (by omega) (by omega) (.inr (by omega)))
  go_enter Try.func39, Try.ntmps39
  go_wp2_with ((with_reducible refine hth.out.mono ?_); rintro e w' ⟨rfl, rfl⟩)
  go_ret
  exact ⟨rfl, rfl⟩
theorem Mem.drew {T : Nat} {w : World} {g h : Nat} {b : List Int} (m : Mem T w g h b) : Mem T w.drew g h b := ⟨m.cell, m.row, m.ne⟩
theorem Mem.drewN {T : Nat} {w : World} {g h : Nat} {b : List Int} (m : Mem T w g h b) (n : Nat) : Mem T (w.drewN n) g h b := ⟨m.cell, m.row, m.ne⟩
theorem grown_set {w wr : World} {h : Nat} (hg : w.grownBy wr (some h)) (i : Nat) (v : Value) : w.grownBy (wr.setCell ⟨h, i, none⟩ v) (some h) :=
  ⟨hg.os, hg.tape, hg.output, by simpa using hg.size, fun k hk hne => (Below.heap_setCell wr ⟨h, i, none⟩ v k (fun e => hne (by rw [e]))).trans (hg.block k hk hne)⟩
theorem grown_drew {w wr : World} {h : Nat} (hg : w.grownBy wr (some h)) : w.grownBy wr.drew (some h) := ⟨hg.os, hg.tape, hg.output, hg.size, hg.block⟩
theorem lay_snoc : ∀ (l : List Int) (a : Nat) (b : List Int) (x : Int), lay b a (l ++ [x]) = (lay b a l).set (a + l.length) x
  | [], _, _, _ => rfl
  | y :: l, a, b, x => by
    show lay (b.set a y) (a + 1) (l ++ [x]) = _
    rw [lay_snoc l (a + 1) (b.set a y) x]
    show _ = (lay (b.set a y) (a + 1) l).set (a + (l.length + 1)) x
    congr 1
    omega
theorem bytes_take (s : ByteArray) (j : Nat) (h : j < s.size) : (bytesOf s).take (j + 1) = (bytesOf s).take j ++ [(s[j].toNat : Int)] := by
  have hl : j < (bytesOf s).length := by rw [bytesOf_length]; exact h
  rw [List.take_succ_eq_append_getElem hl]
  congr 2
  simp [bytesOf]
  rfl
set_option maxHeartbeats 4000000 in
set_option maxRecDepth 100000 in
theorem rfill_yes {w : World} {g h : Nat} {b : List Int} (m : Aside0 (Mem 63 w g h b)) {a : Nat} (s : ByteArray) (hn : b.length ≤ 262144) (ha : a < 4294967296) (hsz : s.size ≤ 140737488351232) (hlt : a + s.size ≤ b.length) :
    Calls Try.prog 39 #[.pointer (some ⟨g, 0, none⟩), .int .u32 (a : Int), .string s] w fun e w' => e = .returned (.int .i64 0) ∧ Mem 63 w' g h (lay b a (bytesOf s)) ∧ w.grownBy w' (some h) := by
  have hth := Aside0.mk (there_yes m hn ha hlt)
  have hg := Aside0.mk m.out.ne
  go_enter Try.func39, Try.ntmps39
  go_wp2_with ((with_reducible refine hth.out.mono ?_); rintro e w' ⟨rfl, rfl⟩)
  go_loopw [7] (fun i wr => ∃ j : Nat, j ≤ s.size ∧ i = .int .i64 j ∧ Aside0 (Mem 63 wr g h (lay b a ((bytesOf s).take j))) ∧ Aside0 (w.grownBy wr (some h))) (fun i _ => s.size - (intOf i).toNat)
  case atStart => exact ⟨0, by omega, rfl, ⟨m.out⟩, ⟨grown_of_below (Below.refl _ _) _⟩⟩
  case round =>
    obtain ⟨j, hj, rfl, hm, hgr⟩ := hrel
    by_cases hl : j < s.size
    · have hlen := Aside0.mk (lay_length ((bytesOf s).take j) a b)
      have hc := hm.out.c0
      rw [hlen.out] at hc
      have hx := hm.out.at_ (a + j) (by rw [hlen.out]; omega)
      have hf := hm.out.fz (a + j)
      have hap := add_plain h (a + j)
      have hst := Aside0.mk (bytes_take s j hl)
      have hpt := Aside0.mk (hm.out.put (a + j) (s[j].toNat : Int))
      generalize (lay b a ((bytesOf s).take j)).getD (a + j) 0 = y at *
      have q0 : IntKind.i64.wrap (a : Int) = (a : Int) := IntWalk.i64_in _ (by omega)
      have s0 : (j : Int) < (s.size : Int) := by omega
      have q2 : (0 : Int) ≤ (a : Int) + (j : Int) := by omega
      have q3 : ((a : Int) + (j : Int)).toNat = a + j := by omega
      have q4 : (a : Int) + (j : Int) < (b.length : Int) := by omega
      have q5 : a + j < b.length := by omega
      have q1 : IntKind.i64.wrap ((a : Int) + (j : Int)) = (a : Int) + (j : Int) := IntWalk.i64_in _ (by omega)
      go_wp2
      go_still_tail 12, (by kernel_rfl)
      change wpList _ _ _ _ _ wr.drew
      go_wp2
      refine ⟨⟨j + 1, by omega, by go_num, ⟨?_⟩, ⟨?_⟩⟩, by simp [intOf]; omega⟩
      · have hl1 : ((bytesOf s).take j).length = j := by rw [List.length_take, bytesOf_length]; omega
        rw [hst.out, lay_snoc, hl1]
        exact hpt.out.drew
      · exact grown_drew (grown_set hgr.out _ _)
    · obtain rfl : j = s.size := by omega
      go_wp2
      go_ret
      have : (bytesOf s).take s.size = bytesOf s := List.take_of_length_le (by rw [bytesOf_length]; omega)
      rw [this] at hm
      exact ⟨rfl, hm.out, hgr.out⟩
/-- A word's four bytes, laid one by one. -/
def bs4 (x : Int) : List Int := [x % 256, x / 256 % 256, x / 65536 % 256, x / 16777216 % 256]
set_option maxHeartbeats 4000000 in
set_option maxRecDepth 100000 in
theorem rstore4_no {w : World} {g h : Nat} {b : List Int} (m : Aside0 (Mem 63 w g h b)) {a : Nat} (x : Int) (hn : b.length ≤ 262144) (ha : a < 4294967296) (hno : a % 4 ≠ 0 ∨ b.length < a + 4) :
    Calls Try.prog 63 #[.pointer (some ⟨g, 0, none⟩), .int .u32 (a : Int), .int .u32 x] w fun e w' => e = .returned (.int .i64 1) ∧ w = w' := by
  by_cases h4 : a % 4 = 0
  · have h4' : ((a : Int) % 4 != 0) = false := by simp; omega
    have hlt : b.length < a + 4 := by omega
    clear hno h4
    go_enter Try.func63, Try.ntmps63
    go_wp2_with ((with_reducible refine (there_no m hn ha (n := 4) (by omega) (by omega) (.inr (by omega))).mono ?_); rintro e w' ⟨rfl, rfl⟩)
    go_ret
    exact ⟨rfl, rfl⟩
  · have h4' : ((a : Int) % 4 != 0) = true := by simp; omega
    clear hno
    go_enter Try.func63, Try.ntmps63
    go_wp2
    go_ret
    exact ⟨rfl, rfl⟩
set_option maxHeartbeats 4000000 in
set_option maxRecDepth 100000 in
theorem rload4_no {w : World} {g h : Nat} {b : List Int} (m : Aside0 (Mem 63 w g h b)) {a : Nat} (hn : b.length ≤ 262144) (ha : a < 4294967296) (hno : a % 4 ≠ 0 ∨ b.length < a + 4) :
    Calls Try.prog 61 #[.pointer (some ⟨g, 0, none⟩), .int .u32 (a : Int)] w fun e w' => e = .returned (.tuple #[.int .u32 0, .int .i64 1]) ∧ w = w' := by
  by_cases h4 : a % 4 = 0
  · have h4' : ((a : Int) % 4 != 0) = false := by simp; omega
    have hlt : b.length < a + 4 := by omega
    clear hno h4
    go_enter Try.func61, Try.ntmps61
    go_wp2_with ((with_reducible refine (there_no m hn ha (n := 4) (by omega) (by omega) (.inr (by omega))).mono ?_); rintro e w' ⟨rfl, rfl⟩)
    go_ret2
    exact ⟨rfl, rfl⟩
  · have h4' : ((a : Int) % 4 != 0) = true := by simp; omega
    clear hno
    go_enter Try.func61, Try.ntmps61
    go_wp2
    go_ret2
    exact ⟨rfl, rfl⟩
set_option maxHeartbeats 4000000 in
set_option maxRecDepth 100000 in
theorem rstore4_yes {w : World} {g h : Nat} {b : List Int} (m : Aside0 (Mem 63 w g h b)) {a : Nat} (x : Int) (hx0 : 0 ≤ x) (hx1 : x ≤ 4294967295) (hn : b.length ≤ 262144) (ha : a < 4294967296) (h4 : a % 4 = 0) (hlt : a + 4 ≤ b.length) :
    Calls Try.prog 63 #[.pointer (some ⟨g, 0, none⟩), .int .u32 (a : Int), .int .u32 x] w fun e w' => e = .returned (.int .i64 0) ∧ Mem 63 w' g h (lay b a (bs4 x)) ∧ w.grownBy w' (some h) := by
  have hth : Aside0 (Calls Try.prog 56 #[.pointer (some ⟨g, 0, none⟩), .int .u32 (a : Int), .int .i64 4] w fun e w' => e = .returned (.bool true) ∧ w = w') := ⟨there_yes m hn ha (n := 4) (by omega)⟩
  have h4' : ((a : Int) % 4 != 0) = false := by simp; omega
  clear h4
  go_enter Try.func63, Try.ntmps63
  go_wp2_with ((with_reducible refine hth.out.mono ?_); rintro e w' ⟨rfl, rfl⟩)
  go_loopw [7] (fun i wr => ∃ j : Nat, j ≤ 4 ∧ i = .int .i64 j ∧ Aside0 (Mem 63 wr g h (lay b a ((bs4 x).take j))) ∧ Aside0 (w.grownBy wr (some h))) (fun i _ => 4 - (intOf i).toNat)
  case atStart => exact ⟨0, by omega, rfl, ⟨m.out⟩, ⟨grown_of_below (Below.refl _ _) _⟩⟩
  case round =>
    obtain ⟨j, hj, rfl, hm, hgr⟩ := hrel
    by_cases hl : j < 4
    · have hlen := Aside0.mk (lay_length ((bs4 x).take j) a b)
      have hc := hm.out.c0
      rw [hlen.out] at hc
      have hy := hm.out.at_ (a + j) (by rw [hlen.out]; omega)
      have hf := hm.out.fz (a + j)
      have hap := add_plain h (a + j)
      have hpt := Aside0.mk (hm.out.put (a + j) ((bs4 x).getD j 0))
      generalize (lay b a ((bs4 x).take j)).getD (a + j) 0 = y at *
      have q0 : IntKind.i64.wrap (a : Int) = (a : Int) := IntWalk.i64_in _ (by omega)
      have q2 : (0 : Int) ≤ (a : Int) + (j : Int) := by omega
      have q3 : ((a : Int) + (j : Int)).toNat = a + j := by omega
      have q4 : (a : Int) + (j : Int) < (b.length : Int) := by omega
      have q5 : a + j < b.length := by omega
      have q1 : IntKind.i64.wrap ((a : Int) + (j : Int)) = (a : Int) + (j : Int) := IntWalk.i64_in _ (by omega)
      go_wp2
      have hv : x / 2 ^ (8 * j) % 256 = (bs4 x).getD j 0 := by
        match j, hl with
        | 0, _ => simp [bs4]
        | 1, _ => rfl
        | 2, _ => rfl
        | 3, _ => rfl
      rw [hv]
      refine ⟨⟨j + 1, by omega, by go_num, ⟨?_⟩, ⟨?_⟩⟩, by simp [intOf]; omega⟩
      · have hb4 : (bs4 x).take (j + 1) = (bs4 x).take j ++ [(bs4 x).getD j 0] := by
          have hjl : j < (bs4 x).length := hl
          rw [List.take_succ_eq_append_getElem hjl]
          simp [List.getD_eq_getElem?_getD, List.getElem?_eq_getElem hjl]
        have hl1 : ((bs4 x).take j).length = j := by rw [List.length_take]; show min j 4 = j; omega
        rw [hb4, lay_snoc, hl1]
        exact hpt.out
      · exact grown_set hgr.out _ _
    · obtain rfl : j = 4 := by omega
      go_wp2
      go_ret
      exact ⟨rfl, hm.out, hgr.out⟩
/-- A word's upper bytes. -/
def up4 (b : List Int) (a : Nat) : Nat → Int
  | 0 => 0
  | j + 1 => up4 b a j * 256 + b.getD (a + (3 - j)) 0
theorem up4_w4 (b : List Int) (a : Nat) : up4 b a 4 = w4 b a := by
  simp only [up4, w4]
  show (((0 * 256 + b.getD (a + 3) 0) * 256 + b.getD (a + 2) 0) * 256 + b.getD (a + 1) 0) * 256 + b.getD (a + 0) 0 = _
  have e : b.getD (a + 0) 0 = b.getD a 0 := rfl
  omega
theorem up4_bd (b : List Int) (a : Nat) (hb : ∀ i, 0 ≤ b.getD i 0 ∧ b.getD i 0 ≤ 255) (j : Nat) (hj : j < 4) : 0 ≤ up4 b a j ∧ up4 b a j ≤ 16777215 := by
  have h3 := hb (a + 3)
  have h2 := hb (a + 2)
  have h1 := hb (a + 1)
  match j, hj with
  | 0, _ => simp [up4]
  | 1, _ => simp only [up4]; show 0 ≤ 0 * 256 + b.getD (a + 3) 0 ∧ 0 * 256 + b.getD (a + 3) 0 ≤ 16777215; omega
  | 2, _ => simp only [up4]; show 0 ≤ (0 * 256 + b.getD (a + 3) 0) * 256 + b.getD (a + 2) 0 ∧ (0 * 256 + b.getD (a + 3) 0) * 256 + b.getD (a + 2) 0 ≤ 16777215; omega
  | 3, _ => simp only [up4]; show 0 ≤ ((0 * 256 + b.getD (a + 3) 0) * 256 + b.getD (a + 2) 0) * 256 + b.getD (a + 1) 0 ∧ ((0 * 256 + b.getD (a + 3) 0) * 256 + b.getD (a + 2) 0) * 256 + b.getD (a + 1) 0 ≤ 16777215; omega
set_option maxHeartbeats 4000000 in
set_option maxRecDepth 100000 in
theorem rload4_yes {w : World} {g h : Nat} {b : List Int} (m : Aside0 (Mem 63 w g h b)) {a : Nat} (hn : b.length ≤ 262144) (ha : a < 4294967296) (h4 : a % 4 = 0) (hlt : a + 4 ≤ b.length) (hb : Aside0 (∀ i, 0 ≤ b.getD i 0 ∧ b.getD i 0 ≤ 255)) :
    Calls Try.prog 61 #[.pointer (some ⟨g, 0, none⟩), .int .u32 (a : Int)] w fun e w' => e = .returned (.tuple #[.int .u32 (w4 b a), .int .i64 0]) ∧ w = w' := by
  have hth : Aside0 (Calls Try.prog 56 #[.pointer (some ⟨g, 0, none⟩), .int .u32 (a : Int), .int .i64 4] w fun e w' => e = .returned (.bool true) ∧ w = w') := ⟨there_yes m hn ha (n := 4) (by omega)⟩
  have h4' : ((a : Int) % 4 != 0) = false := by simp; omega
  have hc := m.out.c0
  have hW := Aside0.mk (up4_w4 b a)
  clear h4
  go_enter Try.func61, Try.ntmps61
  go_wp2_with ((with_reducible refine hth.out.mono ?_); rintro e w' ⟨rfl, rfl⟩)
  go_loop [6, 7] (fun x i => ∃ j : Nat, j ≤ 4 ∧ i = .int .i64 (3 - j) ∧ x = .int .u32 (up4 b a j)) (fun _ i => (intOf i + 1).toNat)
  case atStart => exact ⟨0, by omega, rfl, rfl⟩
  case round =>
    obtain ⟨j, hj, rfl, rfl⟩ := hrel
    by_cases hl : j < 4
    · have hy := m.out.at_ (a + (3 - j)) (by omega)
      have hap := add_plain h (a + (3 - j))
      have hu := up4_bd b a hb.out j hl
      have hyb := hb.out (a + (3 - j))
      have hst : Aside0 (up4 b a (j + 1) = up4 b a j * 256 + b.getD (a + (3 - j)) 0) := ⟨rfl⟩
      generalize b.getD (a + (3 - j)) 0 = y at *
      generalize up4 b a j = p at *
      obtain ⟨hu0, hu1⟩ := hu
      obtain ⟨hy0, hy1⟩ := hyb
      have hor : bits .or .u32 (p * 256) y = p * 256 + y := bits_join .u32 32 (by decide) wraps_u32 8 (p * 256) y (by omega) (by omega) (by omega) (by omega) (by omega) (by omega)
      have q2 : (0 : Int) ≤ (a : Int) + (3 - (j : Int)) := by omega
      have q3 : ((a : Int) + (3 - (j : Int))).toNat = a + (3 - j) := by omega
      have q4 : (a : Int) + (3 - (j : Int)) < (b.length : Int) := by omega
      have q5 : a + (3 - j) < b.length := by omega
      go_wp2
      go_round
      case rel => exact ⟨j + 1, by omega, by congr 1; omega, by rw [hst.out]⟩
      case measure => simp [intOf]; omega
    · obtain rfl : j = 4 := by omega
      rw [hW.out]
      go_wp2
      go_ret2
      exact ⟨rfl, rfl⟩
end Go.Proofs.Ytbhkfdjofopfkaa.MemA
