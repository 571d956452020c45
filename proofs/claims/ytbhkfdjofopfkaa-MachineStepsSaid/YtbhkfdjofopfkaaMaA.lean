/- The program's machine: its state in memory; its smallest functions. -/
import Derived.Test.YtbhkfdjofopfkaaMemC
import Derived.Test.YtbhkfdjofopfkaaWLast
import Derived.Deep.RegionHeld3
import Derived.Deep.RegionWith
import Derived.RegionTactic
import Derived.ChangeAlike
namespace Go.Proofs.Ytbhkfdjofopfkaa.MemA
open Go.RowKit Go.Proofs.YtbhkfdjofopfkaaW.PrintWords Go.Proofs.YtbhkfdjofopfkaaW.PrintLast
set_option linter.unusedVariables false
set_option linter.unusedSimpArgs false
/-- A machine, as data: its image, its registers, its place, its input, what it put, how it ended, its memory. -/
structure Mc where
  code : ByteArray
  data : ByteArray
  glob : Int
  entry : Int
  frame : Int
  regs : List Int
  pc : Int
  inp : ByteArray
  used : Nat
  out : List Int
  ended : Bool
  kind : Int
  ecode : Int
  trap : Int
  mem : List Int
def Mc.hd (s : Mc) (gm : Nat) : List Value := [.string s.code, .string s.data, .int .i64 s.glob, .int .i64 s.entry, .int .i64 s.frame, .pointer (some ⟨gm, 0, none⟩)]
def Mc.tl (s : Mc) (v : Value) : List Value := [.int .i64 s.pc, .string s.inp, .int .i64 (s.used : Int), v, .bool s.ended, .int .i64 s.kind, .int .i32 s.ecode, .int .i64 s.trap, .string ⟨#[]⟩, .int .i64 0, .bool true]
def Mc.vals (s : Mc) (gm : Nat) (v : Value) : List Value := s.hd gm ++ (nums .u32 s.regs ++ s.tl v)
theorem nums_length (k : IntKind) (l : List Int) : (nums k l).length = l.length := by simp [nums]
/-- A machine's data are of their kinds. -/
structure Mc.Ok (s : Mc) : Prop where
  rl : s.regs.length = 16
  r0 : ∀ i, 0 ≤ s.regs.getD i 0 ∧ s.regs.getD i 0 ≤ 4294967295
  ml : s.mem.length = 262144
  m0 : ∀ i, 0 ≤ s.mem.getD i 0 ∧ s.mem.getD i 0 ≤ 255
  ul : s.used ≤ s.inp.size
  il : s.inp.size ≤ 1048576
  cl : s.code.size ≤ 1048576
  p0 : -17179869184 ≤ s.pc ∧ s.pc ≤ 17179869184
  c4 : s.code.size % 4 = 0
theorem Mc.at_hd (s : Mc) (gm : Nat) (v : Value) (j : Nat) (hj : j < 6) : (s.vals gm v)[j]? = (s.hd gm)[j]? := List.getElem?_append_left hj
theorem Mc.at_rg {s : Mc} (h : s.regs.length = 16) (gm : Nat) (v : Value) (i : Nat) (hi : i < 16) : (s.vals gm v)[6 + i]? = some (.int .u32 (s.regs.getD i 0)) := by
  unfold Mc.vals
  rw [List.getElem?_append_right (by simp [Mc.hd]), show 6 + i - (s.hd gm).length = i by simp [Mc.hd], List.getElem?_append_left (by rw [nums_length]; omega)]
  simp [nums, List.getD_eq_getElem?_getD, List.getElem?_eq_getElem (show i < s.regs.length by omega)]
theorem Mc.at_tl {s : Mc} (h : s.regs.length = 16) (gm : Nat) (v : Value) (j : Nat) : (s.vals gm v)[22 + j]? = (s.tl v)[j]? := by
  unfold Mc.vals
  rw [List.getElem?_append_right (by simp [Mc.hd]; omega), List.getElem?_append_right (by rw [nums_length, h]; simp [Mc.hd]; omega)]
  congr 1
  rw [nums_length, h]
  simp [Mc.hd]
  omega
theorem Mc.set_rg {s : Mc} (h : s.regs.length = 16) (gm : Nat) (v : Value) (i : Nat) (hi : i < 16) (x : Int) : (s.vals gm v).set (6 + i) (.int .u32 x) = ({ s with regs := s.regs.set i x }).vals gm v := by
  unfold Mc.vals
  rw [List.set_append, if_neg (by simp [Mc.hd]), show 6 + i - (s.hd gm).length = i by simp [Mc.hd], List.set_append, if_pos (by rw [nums_length]; omega)]
  show s.hd gm ++ ((nums .u32 s.regs).set i (.int .u32 x) ++ s.tl v) = s.hd gm ++ (nums .u32 (s.regs.set i x) ++ s.tl v)
  simp [nums, List.map_set]
theorem Mc.set_tl {s t : Mc} (h : s.regs.length = 16) (gm : Nat) (v v' x : Value) (j : Nat) (hd : t.hd gm = s.hd gm) (hr : t.regs = s.regs) (ht : (s.tl v).set j x = t.tl v') : (s.vals gm v).set (22 + j) x = t.vals gm v' := by
  unfold Mc.vals
  rw [List.set_append, if_neg (by simp [Mc.hd]; omega), List.set_append, if_neg (by rw [nums_length, h]; simp [Mc.hd]; omega), hd, hr]
  have e : 22 + j - (s.hd gm).length - (nums .u32 s.regs).length = j := by rw [nums_length, h]; simp [Mc.hd]; omega
  rw [e, ht]
/-- A machine lies in memory: its block g, its memory's blocks gm and h, what it put in a row (value v) made from base on. -/
structure MW (w : World) (base g gm h : Nat) (v : Value) (s : Mc) : Prop where
  blk : w.heap[g]? = some (.cells (s.vals gm v).toArray 48 (0, 0))
  mem : Mem 94 w gm h s.mem
  out : Kd.R (Kd.int .u8) 5 w base (fun _ => True) v s.out
  hb : h < base
  ok : s.Ok
abbrev PM (g : Nat) : Value := .pointer (some ⟨g, 0, none⟩)
theorem MW.c_hd {w : World} {base g gm h : Nat} {v : Value} {s : Mc} (m : MW w base g gm h v s) (j : Nat) (hj : j < 6) : w.cell? ⟨g, j, none⟩ = (s.hd gm)[j]? := by
  rw [blk_cell m.blk j, ← s.at_hd gm v j hj]; simp
theorem MW.c_rg {w : World} {base g gm h : Nat} {v : Value} {s : Mc} (m : MW w base g gm h v s) (i : Nat) (hi : i < 16) : w.cell? ⟨g, 6 + i, none⟩ = some (.int .u32 (s.regs.getD i 0)) := by
  rw [blk_cell m.blk, ← Mc.at_rg m.ok.rl gm v i hi]; simp
theorem MW.c_tl {w : World} {base g gm h : Nat} {v : Value} {s : Mc} (m : MW w base g gm h v s) (j : Nat) : w.cell? ⟨g, 22 + j, none⟩ = (s.tl v)[j]? := by
  rw [blk_cell m.blk, ← Mc.at_tl m.ok.rl gm v j]; simp
theorem MW.fz {w : World} {base g gm h : Nat} {v : Value} {s : Mc} (m : MW w base g gm h v s) (j : Nat) : w.frozen? ⟨g, j, none⟩ = false := blk_frozen m.blk j
theorem MW.below {w w' : World} {base g gm h : Nat} {v : Value} {s : Mc} (m : MW w base g gm h v s) (b : Below w.heap.size w w') : MW w' base g gm h v s :=
  ⟨blk_below m.blk b, m.mem.below b, Kd.R_below m.out b, m.hb, m.ok⟩
set_option maxHeartbeats 4000000 in
set_option maxRecDepth 100000 in
theorem is_ {w : World} {base g gm h : Nat} {v : Value} {s : Mc} (m : Aside0 (MW w base g gm h v s)) : Calls Try.prog 31 #[PM g] w fun e w' => e = .returned (.bool true) ∧ w = w' := by
  have c32 : w.cell? ⟨g, 32, none⟩ = some (.bool true) := (m.out.c_tl 10).trans rfl
  go_enter Try.func31, Try.ntmps31
  go_wp2
  go_ret
  exact ⟨rfl, rfl⟩
set_option maxHeartbeats 4000000 in
set_option maxRecDepth 100000 in
theorem is_nil (w : World) : Calls Try.prog 31 #[.pointer none] w fun e w' => e = .returned (.bool false) ∧ w = w' := by
  go_enter Try.func31, Try.ntmps31
  go_wp2
  go_ret
  exact ⟨rfl, rfl⟩
set_option maxHeartbeats 4000000 in
set_option maxRecDepth 100000 in
theorem is_empty {w : World} {g : Nat} (c32 : w.cell? ⟨g, 32, none⟩ = some (.bool false)) : Calls Try.prog 31 #[PM g] w fun e w' => e = .returned (.bool false) ∧ w = w' := by
  go_enter Try.func31, Try.ntmps31
  go_wp2
  go_ret
  exact ⟨rfl, rfl⟩
set_option maxHeartbeats 4000000 in
set_option maxRecDepth 100000 in
theorem ended {w : World} {base g gm h : Nat} {v : Value} {s : Mc} (m : Aside0 (MW w base g gm h v s)) : Calls Try.prog 17 #[PM g] w fun e w' => e = .returned (.bool s.ended) ∧ w = w' := by
  have hi := Aside0.mk (is_ m)
  have c26 : w.cell? ⟨g, 26, none⟩ = some (.bool s.ended) := (m.out.c_tl 4).trans rfl
  generalize s.ended = b at *
  go_enter Try.func17, Try.ntmps17
  go_wp2_with ((with_reducible refine hi.out.mono ?_); rintro e w' ⟨rfl, rfl⟩)
  go_ret
  exact ⟨rfl, rfl⟩
set_option maxHeartbeats 4000000 in
set_option maxRecDepth 100000 in
theorem pc {w : World} {base g gm h : Nat} {v : Value} {s : Mc} (m : Aside0 (MW w base g gm h v s)) : Calls Try.prog 19 #[PM g] w fun e w' => e = .returned (.int .i64 s.pc) ∧ w = w' := by
  have hi := Aside0.mk (is_ m)
  have c22 : w.cell? ⟨g, 22, none⟩ = some (.int .i64 s.pc) := (m.out.c_tl 0).trans rfl
  generalize s.pc = b at *
  go_enter Try.func19, Try.ntmps19
  go_wp2_with ((with_reducible refine hi.out.mono ?_); rintro e w' ⟨rfl, rfl⟩)
  go_ret
  exact ⟨rfl, rfl⟩
set_option maxHeartbeats 4000000 in
set_option maxRecDepth 100000 in
theorem memory {w : World} {base g gm h : Nat} {v : Value} {s : Mc} (m : Aside0 (MW w base g gm h v s)) : Calls Try.prog 20 #[PM g] w fun e w' => e = .returned (.pointer (some ⟨gm, 0, none⟩)) ∧ w = w' := by
  have hi := Aside0.mk (is_ m)
  have c5 : w.cell? ⟨g, 5, none⟩ = some (.pointer (some ⟨gm, 0, none⟩)) := (m.out.c_hd 5 (by omega)).trans rfl
  go_enter Try.func20, Try.ntmps20
  go_wp2_with ((with_reducible refine hi.out.mono ?_); rintro e w' ⟨rfl, rfl⟩)
  go_ret
  exact ⟨rfl, rfl⟩
set_option maxHeartbeats 4000000 in
set_option maxRecDepth 100000 in
theorem reg_yes {w : World} {base g gm h : Nat} {v : Value} {s : Mc} (m : Aside0 (MW w base g gm h v s)) (i : Nat) (hi : i < 16) : Calls Try.prog 16 #[PM g, .int .i64 (i : Int)] w fun e w' => e = .returned (.int .u32 (s.regs.getD i 0)) ∧ w = w' := by
  have his := Aside0.mk (is_ m)
  have c := m.out.c_rg i hi
  generalize s.regs.getD i 0 = x at *
  have q0 : (i : Int) < 16 := by omega
  go_enter Try.func16, Try.ntmps16
  go_wp2_with ((with_reducible refine his.out.mono ?_); rintro e w' ⟨rfl, rfl⟩)
  go_ret
  exact ⟨rfl, rfl⟩
set_option maxHeartbeats 4000000 in
set_option maxRecDepth 100000 in
theorem reg_no {w : World} {base g gm h : Nat} {v : Value} {s : Mc} (m : Aside0 (MW w base g gm h v s)) (i : Int) (hi : i < 0 ∨ 16 ≤ i) : Calls Try.prog 16 #[PM g, .int .i64 i] w fun e w' => e = .returned (.int .u32 0) ∧ w = w' := by
  have his := Aside0.mk (is_ m)
  by_cases h0 : i < 0
  · clear hi
    go_enter Try.func16, Try.ntmps16
    go_wp2_with ((with_reducible refine his.out.mono ?_); rintro e w' ⟨rfl, rfl⟩)
    go_ret
    exact ⟨rfl, rfl⟩
  · have h1 : 16 ≤ i := by omega
    clear hi
    go_enter Try.func16, Try.ntmps16
    go_wp2_with ((with_reducible refine his.out.mono ?_); rintro e w' ⟨rfl, rfl⟩)
    go_ret
    exact ⟨rfl, rfl⟩
end Go.Proofs.Ytbhkfdjofopfkaa.MemA
