/- The walk of the law that images are told back. -/
import Derived.Test.YtbalpmpaccfpiaaLaw2
namespace Go.Proofs.Ytbalpmpaccfpiaa.WalkBack2
open Go.RowKit Go.Proofs.Ytbalpmpaccfpiaa.PImageReads Go.Proofs.Ytbalpmpaccfpiaa.Number Go.Proofs.Ytbalpmpaccfpiaa.Write Go.Proofs.Ytbalpmpaccfpiaa.Law1 Go.Proofs.Ytbalpmpaccfpiaa.Law2 Go.Proofs.YtbalpmpaccfpiaaW.PrintWords Go.Proofs.YtbalpmpaccfpiaaW.PrintLast Go.Proofs.YtbalpmpaccfpiaaW.PrintMore
set_option linter.unusedVariables false
set_option linter.unusedSimpArgs false

def im (C D : ByteArray) (g e f : Int) : Value := .agg #[.string C, .string D, .int .i64 g, .int .i64 e, .int .i64 f]
def wrote (s : ByteArray) (c : Int) : Ending := .returned (.tuple #[.string s, .int .i64 c])

def nums (s : ByteArray) (j : Nat) (by1 : Int) : List Int := (s.data.toList.map fun b => (b.toNat : Int)).set j (bits .xor .u8 ((s.data.toList.getD j 0).toNat) by1)

set_option maxHeartbeats 8000000 in
set_option maxRecDepth 100000 in
/-- One byte is changed. -/
theorem refuses (C D s : ByteArray) (g e f by1 c : Int) (j : Nat) (w : World) (hs : (s.size : Int) ≤ 1048576) (hj : j < s.size) (hc0 : (c == 0) = false) (hby : (by1 == 0) = false)
    (h1 : Hid (∀ w, Calls Try.prog 6 #[.agg #[.string C, .string D, .int .i64 g, .int .i64 e, .int .i64 f]] w fun e w' => e = .returned (.tuple #[.string s, .int .i64 0]) ∧ Below w.heap.size w w'))
    (h2 : Hid (∀ w, Calls Try.prog 9 #[.string s] w fun e' w' => e' = .returned (.tuple #[.agg #[.string C, .string D, .int .i64 g, .int .i64 e, .int .i64 f], .int .i64 0]) ∧ Below w.heap.size w w'))
    (h3 : Hid (∀ w, Calls Try.prog 9 #[.string (strOfNums (nums s j by1))] w fun e' w' => e' = .returned (.tuple #[.agg #[.string ⟨#[]⟩, .string ⟨#[]⟩, .int .i64 0, .int .i64 0, .int .i64 0], .int .i64 c]) ∧ Below w.heap.size w w')) :
    Calls Try.prog 5 #[.agg #[.string C, .string D, .int .i64 g, .int .i64 e, .int .i64 f], .int .i64 (j : Int), .int .u8 by1] w fun x w' => x = .returned (.bool true) ∧ Below w.heap.size w w' := by
  go_enter Try.func5, Try.ntmps5
  go_wp2_with fail
  (with_reducible refine (h1.out _).mono ?_)
  rintro e1 w1 ⟨rfl, hb⟩
  have hz1 : w.heap.size < w1.heap.size := by have := hb.size; simp at this; omega
  have k1 : ∀ (j : Nat) v, (#[Value.string C, .string D, .int .i64 g, .int .i64 e, .int .i64 f] : Array Value)[j]? = some v → w1.cell? ⟨w.heap.size, j, none⟩ = some v := fun j v hj => ((bcell hb).1 _ _ (by simp)).trans ((blk_cell (blk_new w _) j).trans hj)
  have k1 := Lib.hid k1
  have hb1 : Aside0 (Below w.heap.size w w1) := ⟨below_then (below_alloc (Below.refl _ _) _) (by simp) hb⟩
  clear hb
  go_wp2_with fail
  (with_reducible refine (h2.out _).mono ?_)
  rintro e2 w2 ⟨rfl, hb⟩
  have k2 : ∀ (j : Nat) v, (#[Value.string C, .string D, .int .i64 g, .int .i64 e, .int .i64 f] : Array Value)[j]? = some v → w2.cell? ⟨w.heap.size, j, none⟩ = some v := fun j v hj => ((bcell hb).1 _ _ hz1).trans (k1.out j v hj)
  have r0 := k2 0 _ rfl
  have r1 := k2 1 _ rfl
  have r2 := k2 2 _ rfl
  have r3 := k2 3 _ rfl
  have r4 := k2 4 _ rfl
  have k2 := Lib.hid k2
  have hz2 : w1.heap.size ≤ w2.heap.size := hb.size
  have hz3 : w.heap.size < w2.heap.size := by omega
  have hb2 : Aside0 (Below w.heap.size w w2) := ⟨below_then hb1.out hb1.out.size hb⟩
  clear hb
  go_wp2_with fail
  rw [print_bytes 9 32 5 Try.underlying9 Try.underlying32 Try.underlying5]
  have hbW : Below w.heap.size w (Lib.bytesWorld (w2.alloc (Obj.cells #[.string C, .string D, .int .i64 g, .int .i64 e, .int .i64 f] 23)) 5 s) := bytes_below (below_alloc hb2.out _) (by simp; omega) 5 s
  have cb : ∀ i, i < s.size → (Lib.bytesWorld (w2.alloc (Obj.cells #[.string C, .string D, .int .i64 g, .int .i64 e, .int .i64 f] 23)) 5 s).cell? ⟨w2.heap.size + 1, i, none⟩ = some (.int .u8 (s.data.toList.getD i 0).toNat) := fun i hi => by
    have := Lib.bytesWorld_cell (w2.alloc (Obj.cells #[.string C, .string D, .int .i64 g, .int .i64 e, .int .i64 f] 23)) 5 s i hi
    simpa using this
  have co : ∀ b o, b < w2.heap.size + 1 → (Lib.bytesWorld (w2.alloc (Obj.cells #[.string C, .string D, .int .i64 g, .int .i64 e, .int .i64 f] 23)) 5 s).cell? ⟨b, o, none⟩ = (w2.alloc (Obj.cells #[.string C, .string D, .int .i64 g, .int .i64 e, .int .i64 f] 23)).cell? ⟨b, o, none⟩ := fun b o hb => Lib.bytesWorld_old _ 5 s _ (by simpa using hb)
  have fb : (Lib.bytesWorld (w2.alloc (Obj.cells #[.string C, .string D, .int .i64 g, .int .i64 e, .int .i64 f] 23)) 5 s).frozen? ⟨w2.heap.size + 1, j, none⟩ = false := by
    have := Lib.bytesWorld_at_new (w2.alloc (Obj.cells #[.string C, .string D, .int .i64 g, .int .i64 e, .int .i64 f] 23)) 5 s
    rw [show (w2.alloc (Obj.cells #[.string C, .string D, .int .i64 g, .int .i64 e, .int .i64 f] 23)).heap.size = w2.heap.size + 1 by simp] at this
    simp [World.frozen?, this, Lib.bytesCells]
    try omega
  generalize Lib.bytesWorld (w2.alloc (Obj.cells #[.string C, .string D, .int .i64 g, .int .i64 e, .int .i64 f] 23)) 5 s = wb at *
  generalize grownCap (w2.alloc (Obj.cells #[.string C, .string D, .int .i64 g, .int .i64 e, .int .i64 f] 23)) s.size 0 5 = cap at *
  have c0 := cb j hj
  have cb := Lib.hid cb
  have co := Lib.hid co
  have hbW := Aside0.mk hbW
  go_wp2_with fail
  have hcell : ∀ i, i < s.size → (wb.setCell ⟨w2.heap.size + 1, j, none⟩ (Value.int IntKind.u8 (bits BinOp.xor IntKind.u8 (↑(s.data[j]'hj).toNat) by1))).cell? ⟨w2.heap.size + 1, 0 + i, none⟩ = some (.int .u8 ((nums s j by1).getD i 0)) := fun i hi => by
    rw [Nat.zero_add]
    by_cases hij : i = j
    · subst hij
      rw [World.cell?_setCell_same' _ _ _ (by rw [c0]; rfl)]
      simp [nums, List.getD_eq_getElem?_getD, hj]
    · rw [World.cell?_setCell_other _ _ _ _ (by intro e; cases e; exact hij rfl), cb.out i hi]
      simp [nums, List.getD_eq_getElem?_getD, hi, List.getElem?_set_ne (Ne.symm hij)]
      rw [List.getElem_set_ne (Ne.symm hij)]
      simp
  have cvt := run_convert_bytes_arg (P := Try.prog) (wb.setCell ⟨w2.heap.size + 1, j, none⟩ (Value.int IntKind.u8 (bits BinOp.xor IntKind.u8 (↑(s.data[j]'hj).toNat) by1))) 32 5 Try.underlying32 Try.underlying5 (w2.heap.size + 1) 0 s.size cap (nums s j by1) (by simp [nums]) hcell 9 Try.underlying9
  have hz4 : w2.heap.size + 1 < (wb.setCell ⟨w2.heap.size + 1, j, none⟩ (Value.int IntKind.u8 (bits BinOp.xor IntKind.u8 (↑(s.data[j]'hj).toNat) by1))).heap.size := by
    have := World.block_lt_of_cell? _ _ c0
    simpa using this
  have hbC := Aside0.mk (hbW.out.setCell (p := ⟨w2.heap.size + 1, j, none⟩) (by simp; omega) (Value.int IntKind.u8 (bits BinOp.xor IntKind.u8 (↑(s.data[j]'hj).toNat) by1)))
  have kc : ∀ (i : Nat) v, (#[Value.string C, .string D, .int .i64 g, .int .i64 e, .int .i64 f] : Array Value)[i]? = some v → (wb.setCell ⟨w2.heap.size + 1, j, none⟩ (Value.int IntKind.u8 (bits BinOp.xor IntKind.u8 (↑(s.data[j]'hj).toNat) by1))).cell? ⟨w.heap.size, i, none⟩ = some v := fun i v hv => by
    rw [World.cell?_setCell_other _ _ _ _ (by intro e; have := congrArg Addr.block e; simp at this; omega), co.out _ _ (by omega), World.cell?_alloc_lt _ _ _ hz3]
    exact k2.out i v hv
  rw [cvt]
  generalize (wb.setCell ⟨w2.heap.size + 1, j, none⟩ (Value.int IntKind.u8 (bits BinOp.xor IntKind.u8 (↑(s.data[j]'hj).toNat) by1))) = wc at *
  have hcell := Lib.hid hcell
  have kc := Lib.hid kc
  go_wp2_with fail
  have hzc : w.heap.size ≤ wc.heap.size := hbC.out.size
  (with_reducible refine (h3.out _).mono ?_)
  rintro e4 w4 ⟨rfl, hb⟩
  have hb4 : Aside0 (Below w.heap.size w w4) := ⟨below_then hbC.out hzc hb⟩
  clear hb
  go_wp2_with fail
  have hzz : w.heap.size ≤ w4.heap.size := hb4.out.size
  (with_reducible refine (awake _).mono ?_)
  rintro e5 w5 ⟨rfl, hb⟩
  have hb5 : Aside0 (Below w.heap.size w w5) := ⟨below_then (below_alloc hb4.out _) (by simp; omega) hb⟩
  clear hb
  go_wp2
  go_ret
  exact ⟨rfl, hb5.out⟩

theorem eqA23 (d : Nat) (w : World) (x0 x1 y0 y1 : ByteArray) (x2 x3 x4 y2 y3 y4 : Int) :
    (Op.equalIn (d + 2) 23 (.agg #[.string x0, .string x1, .int .i64 x2, .int .i64 x3, .int .i64 x4]) (.agg #[.string y0, .string y1, .int .i64 y2, .int .i64 y3, .int .i64 y4])).run Try.prog w = .ok (x0.toList == y0.toList && (x1.toList == y1.toList && (x2 == y2 && (x3 == y3 && (x4 == y4))))) w := by
  refine eqA_of Try.underlying23 (by kernel_rfl) ?_
  refine eqf_cons (by rfl) (by go_simp; rfl) (by go_simp; rfl) (by go_simp) ?_
  refine eqf_cons (by rfl) (by go_simp; rfl) (by go_simp; rfl) (by go_simp) ?_
  refine eqf_cons (by rfl) (by go_simp; rfl) (by go_simp; rfl) (by go_simp) ?_
  refine eqf_cons (by rfl) (by go_simp; rfl) (by go_simp; rfl) (by go_simp) ?_
  exact eqf_last (by rfl) (by go_simp; rfl) (by go_simp; rfl) (by go_simp)

set_option maxHeartbeats 8000000 in
set_option maxRecDepth 100000 in
/-- One byte is changed. -/
theorem tells (C D s : ByteArray) (g e f by1 : Int) (C' D' : ByteArray) (g' e' f' : Int) (j : Nat) (w : World) (hs : (s.size : Int) ≤ 1048576) (hj : j < s.size) (hne : (C'.toList == C.toList && (D'.toList == D.toList && (g' == g && (e' == e && (f' == f))))) = false) (hby : (by1 == 0) = false)
    (h1 : Hid (∀ w, Calls Try.prog 6 #[.agg #[.string C, .string D, .int .i64 g, .int .i64 e, .int .i64 f]] w fun e w' => e = .returned (.tuple #[.string s, .int .i64 0]) ∧ Below w.heap.size w w'))
    (h2 : Hid (∀ w, Calls Try.prog 9 #[.string s] w fun ee w' => ee = .returned (.tuple #[.agg #[.string C, .string D, .int .i64 g, .int .i64 e, .int .i64 f], .int .i64 0]) ∧ Below w.heap.size w w'))
    (h3 : Hid (∀ w, Calls Try.prog 9 #[.string (strOfNums (nums s j by1))] w fun ee w' => ee = .returned (.tuple #[.agg #[.string C', .string D', .int .i64 g', .int .i64 e', .int .i64 f'], .int .i64 0]) ∧ Below w.heap.size w w'))
    (h4 : Hid (∀ w, Calls Try.prog 6 #[.agg #[.string C', .string D', .int .i64 g', .int .i64 e', .int .i64 f']] w fun ee w' => ee = .returned (.tuple #[.string (strOfNums (nums s j by1)), .int .i64 0]) ∧ Below w.heap.size w w')) :
    Calls Try.prog 5 #[.agg #[.string C, .string D, .int .i64 g, .int .i64 e, .int .i64 f], .int .i64 (j : Int), .int .u8 by1] w fun x w' => x = .returned (.bool true) ∧ Below w.heap.size w w' := by
  go_enter Try.func5, Try.ntmps5
  go_wp2_with fail
  (with_reducible refine (h1.out _).mono ?_)
  rintro e1 w1 ⟨rfl, hb⟩
  have hz1 : w.heap.size < w1.heap.size := by have := hb.size; simp at this; omega
  have k1 : ∀ (j : Nat) v, (#[Value.string C, .string D, .int .i64 g, .int .i64 e, .int .i64 f] : Array Value)[j]? = some v → w1.cell? ⟨w.heap.size, j, none⟩ = some v := fun j v hj => ((bcell hb).1 _ _ (by simp)).trans ((blk_cell (blk_new w _) j).trans hj)
  have k1 := Lib.hid k1
  have hb1 : Aside0 (Below w.heap.size w w1) := ⟨below_then (below_alloc (Below.refl _ _) _) (by simp) hb⟩
  clear hb
  go_wp2_with fail
  (with_reducible refine (h2.out _).mono ?_)
  rintro e2 w2 ⟨rfl, hb⟩
  have k2 : ∀ (j : Nat) v, (#[Value.string C, .string D, .int .i64 g, .int .i64 e, .int .i64 f] : Array Value)[j]? = some v → w2.cell? ⟨w.heap.size, j, none⟩ = some v := fun j v hj => ((bcell hb).1 _ _ hz1).trans (k1.out j v hj)
  have r0 := k2 0 _ rfl
  have r1 := k2 1 _ rfl
  have r2 := k2 2 _ rfl
  have r3 := k2 3 _ rfl
  have r4 := k2 4 _ rfl
  have k2 := Lib.hid k2
  have hz2 : w1.heap.size ≤ w2.heap.size := hb.size
  have hz3 : w.heap.size < w2.heap.size := by omega
  have hb2 : Aside0 (Below w.heap.size w w2) := ⟨below_then hb1.out hb1.out.size hb⟩
  clear hb
  go_wp2_with fail
  rw [print_bytes 9 32 5 Try.underlying9 Try.underlying32 Try.underlying5]
  have hbW : Below w.heap.size w (Lib.bytesWorld (w2.alloc (Obj.cells #[.string C, .string D, .int .i64 g, .int .i64 e, .int .i64 f] 23)) 5 s) := bytes_below (below_alloc hb2.out _) (by simp; omega) 5 s
  have cb : ∀ i, i < s.size → (Lib.bytesWorld (w2.alloc (Obj.cells #[.string C, .string D, .int .i64 g, .int .i64 e, .int .i64 f] 23)) 5 s).cell? ⟨w2.heap.size + 1, i, none⟩ = some (.int .u8 (s.data.toList.getD i 0).toNat) := fun i hi => by
    have := Lib.bytesWorld_cell (w2.alloc (Obj.cells #[.string C, .string D, .int .i64 g, .int .i64 e, .int .i64 f] 23)) 5 s i hi
    simpa using this
  have co : ∀ b o, b < w2.heap.size + 1 → (Lib.bytesWorld (w2.alloc (Obj.cells #[.string C, .string D, .int .i64 g, .int .i64 e, .int .i64 f] 23)) 5 s).cell? ⟨b, o, none⟩ = (w2.alloc (Obj.cells #[.string C, .string D, .int .i64 g, .int .i64 e, .int .i64 f] 23)).cell? ⟨b, o, none⟩ := fun b o hb => Lib.bytesWorld_old _ 5 s _ (by simpa using hb)
  have fb : (Lib.bytesWorld (w2.alloc (Obj.cells #[.string C, .string D, .int .i64 g, .int .i64 e, .int .i64 f] 23)) 5 s).frozen? ⟨w2.heap.size + 1, j, none⟩ = false := by
    have := Lib.bytesWorld_at_new (w2.alloc (Obj.cells #[.string C, .string D, .int .i64 g, .int .i64 e, .int .i64 f] 23)) 5 s
    rw [show (w2.alloc (Obj.cells #[.string C, .string D, .int .i64 g, .int .i64 e, .int .i64 f] 23)).heap.size = w2.heap.size + 1 by simp] at this
    simp [World.frozen?, this, Lib.bytesCells]
    try omega
  generalize Lib.bytesWorld (w2.alloc (Obj.cells #[.string C, .string D, .int .i64 g, .int .i64 e, .int .i64 f] 23)) 5 s = wb at *
  generalize grownCap (w2.alloc (Obj.cells #[.string C, .string D, .int .i64 g, .int .i64 e, .int .i64 f] 23)) s.size 0 5 = cap at *
  have c0 := cb j hj
  have cb := Lib.hid cb
  have co := Lib.hid co
  have hbW := Aside0.mk hbW
  go_wp2_with fail
  have hcell : ∀ i, i < s.size → (wb.setCell ⟨w2.heap.size + 1, j, none⟩ (Value.int IntKind.u8 (bits BinOp.xor IntKind.u8 (↑(s.data[j]'hj).toNat) by1))).cell? ⟨w2.heap.size + 1, 0 + i, none⟩ = some (.int .u8 ((nums s j by1).getD i 0)) := fun i hi => by
    rw [Nat.zero_add]
    by_cases hij : i = j
    · subst hij
      rw [World.cell?_setCell_same' _ _ _ (by rw [c0]; rfl)]
      simp [nums, List.getD_eq_getElem?_getD, hj]
    · rw [World.cell?_setCell_other _ _ _ _ (by intro e; cases e; exact hij rfl), cb.out i hi]
      simp [nums, List.getD_eq_getElem?_getD, hi, List.getElem?_set_ne (Ne.symm hij)]
      rw [List.getElem_set_ne (Ne.symm hij)]
      simp
  have cvt := run_convert_bytes_arg (P := Try.prog) (wb.setCell ⟨w2.heap.size + 1, j, none⟩ (Value.int IntKind.u8 (bits BinOp.xor IntKind.u8 (↑(s.data[j]'hj).toNat) by1))) 32 5 Try.underlying32 Try.underlying5 (w2.heap.size + 1) 0 s.size cap (nums s j by1) (by simp [nums]) hcell 9 Try.underlying9
  have hz4 : w2.heap.size + 1 < (wb.setCell ⟨w2.heap.size + 1, j, none⟩ (Value.int IntKind.u8 (bits BinOp.xor IntKind.u8 (↑(s.data[j]'hj).toNat) by1))).heap.size := by
    have := World.block_lt_of_cell? _ _ c0
    simpa using this
  have hbC := Aside0.mk (hbW.out.setCell (p := ⟨w2.heap.size + 1, j, none⟩) (by simp; omega) (Value.int IntKind.u8 (bits BinOp.xor IntKind.u8 (↑(s.data[j]'hj).toNat) by1)))
  have kc : ∀ (i : Nat) v, (#[Value.string C, .string D, .int .i64 g, .int .i64 e, .int .i64 f] : Array Value)[i]? = some v → (wb.setCell ⟨w2.heap.size + 1, j, none⟩ (Value.int IntKind.u8 (bits BinOp.xor IntKind.u8 (↑(s.data[j]'hj).toNat) by1))).cell? ⟨w.heap.size, i, none⟩ = some v := fun i v hv => by
    rw [World.cell?_setCell_other _ _ _ _ (by intro e; have := congrArg Addr.block e; simp at this; omega), co.out _ _ (by omega), World.cell?_alloc_lt _ _ _ hz3]
    exact k2.out i v hv
  rw [cvt]
  generalize (wb.setCell ⟨w2.heap.size + 1, j, none⟩ (Value.int IntKind.u8 (bits BinOp.xor IntKind.u8 (↑(s.data[j]'hj).toNat) by1))) = wc at *
  have hcell := Lib.hid hcell
  have kc := Lib.hid kc
  go_wp2_with fail
  have hzc : w.heap.size ≤ wc.heap.size := hbC.out.size
  (with_reducible refine (h3.out _).mono ?_)
  rintro e4 w4 ⟨rfl, hb⟩
  have kd : ∀ (i : Nat) v, (#[Value.string C, .string D, .int .i64 g, .int .i64 e, .int .i64 f] : Array Value)[i]? = some v → w4.cell? ⟨w.heap.size, i, none⟩ = some v := fun i v hv => ((bcell hb).1 _ _ (by omega)).trans (kc.out i v hv)
  have kd := Lib.hid kd
  have hq : ∀ i, i < s.size → w4.cell? ⟨w2.heap.size + 1, 0 + i, none⟩ = some (.int .u8 ((nums s j by1).getD i 0)) := fun i hi => ((bcell hb).1 _ _ (by omega)).trans (hcell.out i hi)
  have hq := Lib.hid hq
  have hz5 : wc.heap.size ≤ w4.heap.size := hb.size
  have hb4 : Aside0 (Below w.heap.size w w4) := ⟨below_then hbC.out hzc hb⟩
  clear hb
  go_wp2_with fail
  (with_reducible refine (h4.out _).mono ?_)
  rintro e5 w5 ⟨rfl, hb⟩
  have ke : ∀ (i : Nat) v, (#[Value.string C, .string D, .int .i64 g, .int .i64 e, .int .i64 f] : Array Value)[i]? = some v → w5.cell? ⟨w.heap.size, i, none⟩ = some v := fun i v hv => ((bcell hb).1 _ _ (by simp; omega)).trans ((World.cell?_alloc_lt _ _ _ (by show w.heap.size < w4.heap.size; omega)).trans (kd.out i v hv))
  have r0 := ke 0 _ rfl
  have r1 := ke 1 _ rfl
  have r2 := ke 2 _ rfl
  have r3 := ke 3 _ rfl
  have r4 := ke 4 _ rfl
  clear ke
  have ko : ∀ (i : Nat) v, (#[Value.string C', .string D', .int .i64 g', .int .i64 e', .int .i64 f'] : Array Value)[i]? = some v → w5.cell? ⟨w4.heap.size, i, none⟩ = some v := fun i v hv => ((bcell hb).1 _ _ (by simp)).trans ((blk_cell (blk_new w4 _) i).trans hv)
  have q0 := ko 0 _ rfl
  have q1 := ko 1 _ rfl
  have q2 := ko 2 _ rfl
  have q3 := ko 3 _ rfl
  have q4 := ko 4 _ rfl
  clear ko
  have cv5 := run_convert_bytes_arg (P := Try.prog) w5 32 5 Try.underlying32 Try.underlying5 (w2.heap.size + 1) 0 s.size cap (nums s j by1) (by simp [nums]) (fun i hi => ((bcell hb).1 _ _ (by simp; omega)).trans ((World.cell?_alloc_lt _ _ _ (by show w2.heap.size + 1 < w4.heap.size; omega)).trans (hq.out i hi))) 9 Try.underlying9
  have hz6 : w.heap.size ≤ w5.heap.size := by have := hb.size; simp at this; omega
  have hb5 : Aside0 (Below w.heap.size w w5) := ⟨below_then (below_alloc hb4.out _) (by simp; omega) hb⟩
  clear hb
  have eq := fun d w => eqA23 d w C' D' C D g' e' f' g e f
  rw [hne] at eq
  go_wp2_with fail
  (with_reducible refine (awake _).mono ?_)
  rintro e6 w6 ⟨rfl, hb⟩
  have hb6 : Aside0 (Below w.heap.size w w6) := ⟨below_then hb5.out hz6 hb⟩
  clear hb
  go_wp2
  go_ret
  exact ⟨rfl, hb6.out⟩
end Go.Proofs.Ytbalpmpaccfpiaa.WalkBack2
