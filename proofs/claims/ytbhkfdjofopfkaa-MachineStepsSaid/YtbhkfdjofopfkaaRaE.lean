/- The reference's machine: does (printed by mkR.py of session 4). -/
import Derived.Test.YtbhkfdjofopfkaaRaC
import Derived.StillTailTactics
import Derived.Deep.RegionHeld3
import Derived.Test.YtbhkfdjofopfkaaLexS
namespace Go.Proofs.Ytbhkfdjofopfkaa.MemA
open Go.RowKit Go.Proofs.YtbhkfdjofopfkaaW.PrintWords Go.Proofs.YtbhkfdjofopfkaaW.PrintLast
set_option linter.unusedVariables false
set_option linter.unusedSimpArgs false

def Mc.use (s : Mc) : Mc := { s with used := s.used + 1 }
def Mc.put (s : Mc) (x : Int) : Mc := { s with out := s.out ++ [x] }
def Mc.halt (s : Mc) (x : Int) : Mc := { s with ended := true, kind := 1, ecode := x, trap := 0 }
def DoP (g base gm h : Nat) (v : Value) (s : Mc) (w : World) (e : Ending) (w' : World) : Prop := e = .returned (.tuple #[]) ∧ ∃ v', RW w' base g gm h v' s ∧ OwnOk v v' w ∧ Fr (SR g h v) w w'

set_option maxHeartbeats 8000000 in
set_option maxRecDepth 100000 in
theorem do_32 {w : World} {base g gm h : Nat} {v : Value} {s : Mc} (m : Aside0 (RW w base g gm h v s)) {d a b : Nat} {i : Int} (hd : d < 16) (ha : a < 16) (hp0 : 0 ≤ s.pc) (hp1 : s.pc ≤ 1048576) (i0 : -8388608 ≤ i) (i1 : i ≤ 8388607) :
    Calls Try.prog 46 #[PM g, insV 32 d a b i] w (DoP g base gm h v (s.setR d ((s.regs.getD a 0 + i) % 4294967296)) w) := by
  have ca := m.out.c_rg a ha
  have cd := m.out.c_rg d hd
  have c23 : w.cell? ⟨g, 23, none⟩ = some (.int .i64 s.pc) := (m.out.c_tl 0).trans rfl
  have hg := blk_lt m.out.blk
  have q1 : (a : Int) < 16 := by omega
  have q2 : (d : Int) < 16 := by omega
  have r1 := add1 g 7 a
  have r2 := add1 g 7 d
  obtain ⟨xa0, xa1⟩ := m.out.ok.r0 a
  obtain ⟨xd0, xd1⟩ := m.out.ok.r0 d
  generalize hra : s.regs.getD a 0 = ra at *
  generalize hrd : s.regs.getD d 0 = rd at *
  generalize hpc : s.pc = pc at *
  replace hra := Aside0.mk hra
  replace hrd := Aside0.mk hrd
  replace hpc := Aside0.mk hpc
  have hr : Aside0 ((w.alloc (.cells #[.int .i64 32, .int .i64 (d : Int), .int .i64 (a : Int), .int .i64 (b : Int), .int .i32 i] 67)).heap[w.heap.size]? = some (.cells #[.int .i64 32, .int .i64 (d : Int), .int .i64 (a : Int), .int .i64 (b : Int), .int .i32 i] 67 (0, 0))) := ⟨blk_new w _⟩
  have hb : Aside0 (Below w.heap.size w (w.alloc (.cells #[.int .i64 32, .int .i64 (d : Int), .int .i64 (a : Int), .int .i64 (b : Int), .int .i32 i] 67))) := ⟨below_alloc (Below.refl _ _) _⟩
  go_enter Try.func46, Try.ntmps46
  go_upto_region 1 with (fail)
  have hgp : g ≠ w.heap.size := Nat.ne_of_lt hg
  have hpg : w.heap.size ≠ g := Ne.symm hgp
  generalize w.alloc (.cells #[.int .i64 32, .int .i64 (d : Int), .int .i64 (a : Int), .int .i64 (b : Int), .int .i32 i] 67) = W at *
  have mW : Aside0 (RW W base g gm h v s) := ⟨m.out.below hb.out⟩
  have fW : Aside0 (Fr (SR g h v) w W) := ⟨Fr.of_below hb.out _⟩
  have da := (Below.cell hb.out (p := ⟨g, 7 + a, none⟩) hg).trans ca
  have dd := (Below.cell hb.out (p := ⟨g, 7 + d, none⟩) hg).trans cd
  have d23 := (Below.cell hb.out (p := ⟨g, 23, none⟩) hg).trans c23
  have y0 := (blk_cell hr.out 0).trans (show _ = some (.int .i64 32) from rfl)
  have y1 := (blk_cell hr.out 1).trans (show _ = some (.int .i64 (d : Int)) from rfl)
  have y2 := (blk_cell hr.out 2).trans (show _ = some (.int .i64 (a : Int)) from rfl)
  have y4 := (blk_cell hr.out 4).trans (show _ = some (.int .i32 i) from rfl)
  clear ca cd c23
  go_upto_region 3 with (fail)
  go_still_tail 14, (by kernel_rfl)
  change wpList _ _ _ _ _ W.drew
  have mY : Aside0 (RW W.drew base g gm h v s) := ⟨mW.out.below (below_drew (Below.refl _ _))⟩
  have fY : Aside0 (Fr (SR g h v) w W.drew) := ⟨fW.out.trans (Fr.of_below (below_drew (Below.refl _ _)) _)⟩
  clear da dd d23 y0 y1 y2 y4
  generalize W.drew = Y at *
  go_wp2_with (go_at_call 44; (with_reducible refine (rset mY d hd _ (by omega) (by omega)).mono ?_); rintro e w3 ⟨rfl, m3, o3⟩; replace m3 := Aside0.mk m3; replace o3 := Aside0.mk o3)
  go_end0
  have hm3 := m3.out
  rw [show (ra + i % 4294967296) % 4294967296 = (ra + i) % 4294967296 by omega] at hm3
  exact ⟨rfl, v, hm3, .inl rfl, fY.out.trans (o3.out.mono SR.g)⟩

set_option maxHeartbeats 8000000 in
set_option maxRecDepth 100000 in
theorem do_33 {w : World} {base g gm h : Nat} {v : Value} {s : Mc} (m : Aside0 (RW w base g gm h v s)) {d a b : Nat} {i : Int} (hd : d < 16) (ha : a < 16) (hp0 : 0 ≤ s.pc) (hp1 : s.pc ≤ 1048576) (i0 : -8388608 ≤ i) (i1 : i ≤ 8388607) :
    Calls Try.prog 46 #[PM g, insV 33 d a b i] w (DoP g base gm h v (s.setR d (i % 4294967296)) w) := by
  have ca := m.out.c_rg a ha
  have cd := m.out.c_rg d hd
  have c23 : w.cell? ⟨g, 23, none⟩ = some (.int .i64 s.pc) := (m.out.c_tl 0).trans rfl
  have hg := blk_lt m.out.blk
  have q1 : (a : Int) < 16 := by omega
  have q2 : (d : Int) < 16 := by omega
  have r1 := add1 g 7 a
  have r2 := add1 g 7 d
  obtain ⟨xa0, xa1⟩ := m.out.ok.r0 a
  obtain ⟨xd0, xd1⟩ := m.out.ok.r0 d
  generalize hra : s.regs.getD a 0 = ra at *
  generalize hrd : s.regs.getD d 0 = rd at *
  generalize hpc : s.pc = pc at *
  replace hra := Aside0.mk hra
  replace hrd := Aside0.mk hrd
  replace hpc := Aside0.mk hpc
  have hr : Aside0 ((w.alloc (.cells #[.int .i64 33, .int .i64 (d : Int), .int .i64 (a : Int), .int .i64 (b : Int), .int .i32 i] 67)).heap[w.heap.size]? = some (.cells #[.int .i64 33, .int .i64 (d : Int), .int .i64 (a : Int), .int .i64 (b : Int), .int .i32 i] 67 (0, 0))) := ⟨blk_new w _⟩
  have hb : Aside0 (Below w.heap.size w (w.alloc (.cells #[.int .i64 33, .int .i64 (d : Int), .int .i64 (a : Int), .int .i64 (b : Int), .int .i32 i] 67))) := ⟨below_alloc (Below.refl _ _) _⟩
  go_enter Try.func46, Try.ntmps46
  go_upto_region 1 with (fail)
  have hgp : g ≠ w.heap.size := Nat.ne_of_lt hg
  have hpg : w.heap.size ≠ g := Ne.symm hgp
  generalize w.alloc (.cells #[.int .i64 33, .int .i64 (d : Int), .int .i64 (a : Int), .int .i64 (b : Int), .int .i32 i] 67) = W at *
  have mW : Aside0 (RW W base g gm h v s) := ⟨m.out.below hb.out⟩
  have fW : Aside0 (Fr (SR g h v) w W) := ⟨Fr.of_below hb.out _⟩
  have da := (Below.cell hb.out (p := ⟨g, 7 + a, none⟩) hg).trans ca
  have dd := (Below.cell hb.out (p := ⟨g, 7 + d, none⟩) hg).trans cd
  have d23 := (Below.cell hb.out (p := ⟨g, 23, none⟩) hg).trans c23
  have y0 := (blk_cell hr.out 0).trans (show _ = some (.int .i64 33) from rfl)
  have y1 := (blk_cell hr.out 1).trans (show _ = some (.int .i64 (d : Int)) from rfl)
  have y2 := (blk_cell hr.out 2).trans (show _ = some (.int .i64 (a : Int)) from rfl)
  have y4 := (blk_cell hr.out 4).trans (show _ = some (.int .i32 i) from rfl)
  clear ca cd c23
  go_wp2_with (go_at_call 44; (with_reducible refine (rset mW d hd _ (by omega) (by omega)).mono ?_); rintro e w3 ⟨rfl, m3, o3⟩; replace m3 := Aside0.mk m3; replace o3 := Aside0.mk o3)
  go_end0
  exact ⟨rfl, v, m3.out, .inl rfl, fW.out.trans (o3.out.mono SR.g)⟩

set_option maxHeartbeats 8000000 in
set_option maxRecDepth 100000 in
theorem do_34 {w : World} {base g gm h : Nat} {v : Value} {s : Mc} (m : Aside0 (RW w base g gm h v s)) {d a b : Nat} {i : Int} (hd : d < 16) (ha : a < 16) (hp0 : 0 ≤ s.pc) (hp1 : s.pc ≤ 1048576) (i0 : -8388608 ≤ i) (i1 : i ≤ 8388607) :
    Calls Try.prog 46 #[PM g, insV 34 d a b i] w (DoP g base gm h v (s.setR d (bits .or .u32 (bits .and .u32 (s.regs.getD d 0) 65535) (i % 4294967296 * 65536 % 4294967296))) w) := by
  have ca := m.out.c_rg a ha
  have cd := m.out.c_rg d hd
  have c23 : w.cell? ⟨g, 23, none⟩ = some (.int .i64 s.pc) := (m.out.c_tl 0).trans rfl
  have hg := blk_lt m.out.blk
  have q1 : (a : Int) < 16 := by omega
  have q2 : (d : Int) < 16 := by omega
  have r1 := add1 g 7 a
  have r2 := add1 g 7 d
  obtain ⟨xa0, xa1⟩ := m.out.ok.r0 a
  obtain ⟨xd0, xd1⟩ := m.out.ok.r0 d
  generalize hra : s.regs.getD a 0 = ra at *
  generalize hrd : s.regs.getD d 0 = rd at *
  generalize hpc : s.pc = pc at *
  replace hra := Aside0.mk hra
  replace hrd := Aside0.mk hrd
  replace hpc := Aside0.mk hpc
  have hr : Aside0 ((w.alloc (.cells #[.int .i64 34, .int .i64 (d : Int), .int .i64 (a : Int), .int .i64 (b : Int), .int .i32 i] 67)).heap[w.heap.size]? = some (.cells #[.int .i64 34, .int .i64 (d : Int), .int .i64 (a : Int), .int .i64 (b : Int), .int .i32 i] 67 (0, 0))) := ⟨blk_new w _⟩
  have hb : Aside0 (Below w.heap.size w (w.alloc (.cells #[.int .i64 34, .int .i64 (d : Int), .int .i64 (a : Int), .int .i64 (b : Int), .int .i32 i] 67))) := ⟨below_alloc (Below.refl _ _) _⟩
  go_enter Try.func46, Try.ntmps46
  go_upto_region 1 with (fail)
  have hgp : g ≠ w.heap.size := Nat.ne_of_lt hg
  have hpg : w.heap.size ≠ g := Ne.symm hgp
  generalize w.alloc (.cells #[.int .i64 34, .int .i64 (d : Int), .int .i64 (a : Int), .int .i64 (b : Int), .int .i32 i] 67) = W at *
  have mW : Aside0 (RW W base g gm h v s) := ⟨m.out.below hb.out⟩
  have fW : Aside0 (Fr (SR g h v) w W) := ⟨Fr.of_below hb.out _⟩
  have da := (Below.cell hb.out (p := ⟨g, 7 + a, none⟩) hg).trans ca
  have dd := (Below.cell hb.out (p := ⟨g, 7 + d, none⟩) hg).trans cd
  have d23 := (Below.cell hb.out (p := ⟨g, 23, none⟩) hg).trans c23
  have y0 := (blk_cell hr.out 0).trans (show _ = some (.int .i64 34) from rfl)
  have y1 := (blk_cell hr.out 1).trans (show _ = some (.int .i64 (d : Int)) from rfl)
  have y2 := (blk_cell hr.out 2).trans (show _ = some (.int .i64 (a : Int)) from rfl)
  have y4 := (blk_cell hr.out 4).trans (show _ = some (.int .i32 i) from rfl)
  clear ca cd c23
  go_upto_region 7 with (fail)
  go_still_tail 16, (by kernel_rfl)
  change wpList _ _ _ _ _ W.drew
  have mY : Aside0 (RW W.drew base g gm h v s) := ⟨mW.out.below (below_drew (Below.refl _ _))⟩
  have fY : Aside0 (Fr (SR g h v) w W.drew) := ⟨fW.out.trans (Fr.of_below (below_drew (Below.refl _ _)) _)⟩
  clear da dd d23 y0 y1 y2 y4
  generalize W.drew = Y at *
  go_wp2_with (go_at_call 44; (with_reducible refine (rset mY d hd _ (bitsbd _ _ _).1 (bitsbd _ _ _).2).mono ?_); rintro e w3 ⟨rfl, m3, o3⟩; replace m3 := Aside0.mk m3; replace o3 := Aside0.mk o3)
  go_end0
  exact ⟨rfl, v, m3.out, .inl rfl, fY.out.trans (o3.out.mono SR.g)⟩

set_option maxHeartbeats 8000000 in
set_option maxRecDepth 100000 in
theorem do_42 {w : World} {base g gm h : Nat} {v : Value} {s : Mc} (m : Aside0 (RW w base g gm h v s)) {d a b : Nat} {i : Int} (hd : d < 16) (ha : a < 16) (hp0 : 0 ≤ s.pc) (hp1 : s.pc ≤ 1048576) (i0 : -8388608 ≤ i) (i1 : i ≤ 8388607) :
    Calls Try.prog 46 #[PM g, insV 42 d a b i] w (DoP g base gm h v (s.setR 14 (s.pc + 4)) w) := by
  have ca := m.out.c_rg a ha
  have cd := m.out.c_rg d hd
  have c23 : w.cell? ⟨g, 23, none⟩ = some (.int .i64 s.pc) := (m.out.c_tl 0).trans rfl
  have hg := blk_lt m.out.blk
  have q1 : (a : Int) < 16 := by omega
  have q2 : (d : Int) < 16 := by omega
  have r1 := add1 g 7 a
  have r2 := add1 g 7 d
  obtain ⟨xa0, xa1⟩ := m.out.ok.r0 a
  obtain ⟨xd0, xd1⟩ := m.out.ok.r0 d
  generalize hra : s.regs.getD a 0 = ra at *
  generalize hrd : s.regs.getD d 0 = rd at *
  generalize hpc : s.pc = pc at *
  replace hra := Aside0.mk hra
  replace hrd := Aside0.mk hrd
  replace hpc := Aside0.mk hpc
  have hr : Aside0 ((w.alloc (.cells #[.int .i64 42, .int .i64 (d : Int), .int .i64 (a : Int), .int .i64 (b : Int), .int .i32 i] 67)).heap[w.heap.size]? = some (.cells #[.int .i64 42, .int .i64 (d : Int), .int .i64 (a : Int), .int .i64 (b : Int), .int .i32 i] 67 (0, 0))) := ⟨blk_new w _⟩
  have hb : Aside0 (Below w.heap.size w (w.alloc (.cells #[.int .i64 42, .int .i64 (d : Int), .int .i64 (a : Int), .int .i64 (b : Int), .int .i32 i] 67))) := ⟨below_alloc (Below.refl _ _) _⟩
  go_enter Try.func46, Try.ntmps46
  go_upto_region 1 with (fail)
  have hgp : g ≠ w.heap.size := Nat.ne_of_lt hg
  have hpg : w.heap.size ≠ g := Ne.symm hgp
  generalize w.alloc (.cells #[.int .i64 42, .int .i64 (d : Int), .int .i64 (a : Int), .int .i64 (b : Int), .int .i32 i] 67) = W at *
  have mW : Aside0 (RW W base g gm h v s) := ⟨m.out.below hb.out⟩
  have fW : Aside0 (Fr (SR g h v) w W) := ⟨Fr.of_below hb.out _⟩
  have da := (Below.cell hb.out (p := ⟨g, 7 + a, none⟩) hg).trans ca
  have dd := (Below.cell hb.out (p := ⟨g, 7 + d, none⟩) hg).trans cd
  have d23 := (Below.cell hb.out (p := ⟨g, 23, none⟩) hg).trans c23
  have y0 := (blk_cell hr.out 0).trans (show _ = some (.int .i64 42) from rfl)
  have y1 := (blk_cell hr.out 1).trans (show _ = some (.int .i64 (d : Int)) from rfl)
  have y2 := (blk_cell hr.out 2).trans (show _ = some (.int .i64 (a : Int)) from rfl)
  have y4 := (blk_cell hr.out 4).trans (show _ = some (.int .i32 i) from rfl)
  clear ca cd c23
  have hs : Aside0 (s.setR 14 (pc + 4) = { s with regs := s.regs.set 14 (pc + 4) }) := ⟨by unfold Mc.setR; rw [if_neg (by decide)]⟩
  have k21 : W.cell? ⟨g, 21, none⟩ = some (.int .u32 (s.regs.getD 14 0)) := mW.out.c_rg 14 (by omega)
  have f21 := mW.out.fz 21
  go_upto_region 9 with (fail)
  go_still_tail 10, (by kernel_rfl)
  change wpList _ _ _ _ _ W.drew
  have mY : Aside0 (RW W.drew base g gm h v s) := ⟨mW.out.below (below_drew (Below.refl _ _))⟩
  have fY : Aside0 (Fr (SR g h v) w W.drew) := ⟨fW.out.trans (Fr.of_below (below_drew (Below.refl _ _)) _)⟩
  have l21 : W.drew.cell? ⟨g, 21, none⟩ = some (.int .u32 (s.regs.getD 14 0)) := k21
  have g21 : W.drew.frozen? ⟨g, 21, none⟩ = false := f21
  clear da dd d23 y0 y1 y2 y4 k21 f21
  generalize W.drew = Y at *
  go_wp2_with fail
  go_end0
  exact ⟨rfl, v, by rw [hs.out]; exact mY.out.cell_set (7 + 14) (.int .u32 (pc + 4)) (Mc.rset_rg mY.out.ok.rl gm v 14 (by omega) (pc + 4)) rfl rfl (mY.out.ok.reg 14 (pc + 4) (by omega) (by omega)), .inl rfl, fY.out.setCell (p := ⟨g, 21, none⟩) (.inl rfl) _⟩

set_option maxHeartbeats 8000000 in
set_option maxRecDepth 100000 in
theorem do_44n {w : World} {base g gm h : Nat} {v : Value} {s : Mc} (m : Aside0 (RW w base g gm h v s)) {d a b : Nat} {i : Int} (hu : ¬ s.used < s.inp.size) (hd : d < 16) (ha : a < 16) (hp0 : 0 ≤ s.pc) (hp1 : s.pc ≤ 1048576) (i0 : -8388608 ≤ i) (i1 : i ≤ 8388607) :
    Calls Try.prog 46 #[PM g, insV 44 d a b i] w (DoP g base gm h v (s.getS.setR d s.getV) w) := by
  have ca := m.out.c_rg a ha
  have cd := m.out.c_rg d hd
  have c23 : w.cell? ⟨g, 23, none⟩ = some (.int .i64 s.pc) := (m.out.c_tl 0).trans rfl
  have hg := blk_lt m.out.blk
  have q1 : (a : Int) < 16 := by omega
  have q2 : (d : Int) < 16 := by omega
  have r1 := add1 g 7 a
  have r2 := add1 g 7 d
  obtain ⟨xa0, xa1⟩ := m.out.ok.r0 a
  obtain ⟨xd0, xd1⟩ := m.out.ok.r0 d
  have hgS : Aside0 (s.getS = s) := ⟨by unfold Mc.getS; rw [if_neg hu]⟩
  have hgV : Aside0 (s.getV = 4294967295) := ⟨by unfold Mc.getV; rw [dif_neg hu]⟩
  have c5 : w.cell? ⟨g, 5, none⟩ = some (.string s.inp) := (m.out.c_hd 5 (by omega)).trans rfl
  have c31 : w.cell? ⟨g, 31, none⟩ = some (.int .i64 (s.used : Int)) := (m.out.c_tl 8).trans rfl
  have u1 : decide ((s.used : Int) < (s.inp.size : Int)) = false := decide_eq_false (by omega)
  have u2 : decide (s.used < s.inp.size) = false := decide_eq_false hu
  clear hu
  generalize hra : s.regs.getD a 0 = ra at *
  generalize hrd : s.regs.getD d 0 = rd at *
  generalize hpc : s.pc = pc at *
  replace hra := Aside0.mk hra
  replace hrd := Aside0.mk hrd
  replace hpc := Aside0.mk hpc
  have hr : Aside0 ((w.alloc (.cells #[.int .i64 44, .int .i64 (d : Int), .int .i64 (a : Int), .int .i64 (b : Int), .int .i32 i] 67)).heap[w.heap.size]? = some (.cells #[.int .i64 44, .int .i64 (d : Int), .int .i64 (a : Int), .int .i64 (b : Int), .int .i32 i] 67 (0, 0))) := ⟨blk_new w _⟩
  have hb : Aside0 (Below w.heap.size w (w.alloc (.cells #[.int .i64 44, .int .i64 (d : Int), .int .i64 (a : Int), .int .i64 (b : Int), .int .i32 i] 67))) := ⟨below_alloc (Below.refl _ _) _⟩
  go_enter Try.func46, Try.ntmps46
  go_upto_region 1 with (fail)
  have hgp : g ≠ w.heap.size := Nat.ne_of_lt hg
  have hpg : w.heap.size ≠ g := Ne.symm hgp
  generalize w.alloc (.cells #[.int .i64 44, .int .i64 (d : Int), .int .i64 (a : Int), .int .i64 (b : Int), .int .i32 i] 67) = W at *
  have mW : Aside0 (RW W base g gm h v s) := ⟨m.out.below hb.out⟩
  have fW : Aside0 (Fr (SR g h v) w W) := ⟨Fr.of_below hb.out _⟩
  have da := (Below.cell hb.out (p := ⟨g, 7 + a, none⟩) hg).trans ca
  have dd := (Below.cell hb.out (p := ⟨g, 7 + d, none⟩) hg).trans cd
  have d23 := (Below.cell hb.out (p := ⟨g, 23, none⟩) hg).trans c23
  have y0 := (blk_cell hr.out 0).trans (show _ = some (.int .i64 44) from rfl)
  have y1 := (blk_cell hr.out 1).trans (show _ = some (.int .i64 (d : Int)) from rfl)
  have y2 := (blk_cell hr.out 2).trans (show _ = some (.int .i64 (a : Int)) from rfl)
  have y4 := (blk_cell hr.out 4).trans (show _ = some (.int .i32 i) from rfl)
  clear ca cd c23
  have d5 := (Below.cell hb.out (p := ⟨g, 5, none⟩) hg).trans c5
  have d31 := (Below.cell hb.out (p := ⟨g, 31, none⟩) hg).trans c31
  go_upto_region 12 with (fail)
  go_quiet (fail)
  have mX : Aside0 (RW (W.drewN nq) base g gm h v s) := ⟨mW.out.below (bdn0 _ _)⟩
  have fX : Aside0 (Fr (SR g h v) w (W.drewN nq)) := ⟨fW.out.trans (Fr.of_below (bdn0 _ _) _)⟩
  have z1 : (W.drewN nq).cell? ⟨w.heap.size, 1, none⟩ = some (.int .i64 (d : Int)) := y1
  generalize W.drewN nq = X at *
  clear da dd d23 y0 y1 y2 y4 d5 d31 c5 c31
  go_wp2_with (go_at_call 44; (with_reducible refine (rset mX d hd _ (by omega) (by omega)).mono ?_); rintro e w3 ⟨rfl, m3, o3⟩; replace m3 := Aside0.mk m3; replace o3 := Aside0.mk o3)
  go_end0
  exact ⟨rfl, v, by rw [hgS.out, hgV.out]; exact m3.out, .inl rfl, fX.out.trans (o3.out.mono SR.g)⟩

set_option maxHeartbeats 8000000 in
set_option maxRecDepth 100000 in
theorem do_44y {w : World} {base g gm h : Nat} {v : Value} {s : Mc} (m : Aside0 (RW w base g gm h v s)) {d a b : Nat} {i : Int} (hu : s.used < s.inp.size) (hd : d < 16) (ha : a < 16) (hp0 : 0 ≤ s.pc) (hp1 : s.pc ≤ 1048576) (i0 : -8388608 ≤ i) (i1 : i ≤ 8388607) :
    Calls Try.prog 46 #[PM g, insV 44 d a b i] w (DoP g base gm h v (s.getS.setR d s.getV) w) := by
  have ca := m.out.c_rg a ha
  have cd := m.out.c_rg d hd
  have c23 : w.cell? ⟨g, 23, none⟩ = some (.int .i64 s.pc) := (m.out.c_tl 0).trans rfl
  have hg := blk_lt m.out.blk
  have q1 : (a : Int) < 16 := by omega
  have q2 : (d : Int) < 16 := by omega
  have r1 := add1 g 7 a
  have r2 := add1 g 7 d
  obtain ⟨xa0, xa1⟩ := m.out.ok.r0 a
  obtain ⟨xd0, xd1⟩ := m.out.ok.r0 d
  have hgS : Aside0 (s.getS = s.use) := ⟨by unfold Mc.getS; rw [if_pos hu]; rfl⟩
  have hgV : Aside0 (s.getV = (s.inp[s.used].toNat : Int)) := ⟨by unfold Mc.getV; rw [dif_pos hu]⟩
  have c5 : w.cell? ⟨g, 5, none⟩ = some (.string s.inp) := (m.out.c_hd 5 (by omega)).trans rfl
  have c31 : w.cell? ⟨g, 31, none⟩ = some (.int .i64 (s.used : Int)) := (m.out.c_tl 8).trans rfl
  have hsz : s.inp.size ≤ 1048576 := m.out.ok.il
  have u1 : decide ((s.used : Int) < (s.inp.size : Int)) = true := decide_eq_true (by omega)
  have u2 : decide (s.used < s.inp.size) = true := decide_eq_true hu
  have u3 : (s.used : Int) < (s.inp.size : Int) := by omega
  have hyb := s.inp[s.used].toNat_lt
  have hok : Aside0 (s.use.Ok) := ⟨by have k0 := m.out.ok; exact ⟨k0.rl, k0.r0, k0.ml, k0.m0, hu, k0.il, k0.cl, k0.p0, k0.c4⟩⟩
  generalize hra : s.regs.getD a 0 = ra at *
  generalize hrd : s.regs.getD d 0 = rd at *
  generalize hpc : s.pc = pc at *
  replace hra := Aside0.mk hra
  replace hrd := Aside0.mk hrd
  replace hpc := Aside0.mk hpc
  have hr : Aside0 ((w.alloc (.cells #[.int .i64 44, .int .i64 (d : Int), .int .i64 (a : Int), .int .i64 (b : Int), .int .i32 i] 67)).heap[w.heap.size]? = some (.cells #[.int .i64 44, .int .i64 (d : Int), .int .i64 (a : Int), .int .i64 (b : Int), .int .i32 i] 67 (0, 0))) := ⟨blk_new w _⟩
  have hb : Aside0 (Below w.heap.size w (w.alloc (.cells #[.int .i64 44, .int .i64 (d : Int), .int .i64 (a : Int), .int .i64 (b : Int), .int .i32 i] 67))) := ⟨below_alloc (Below.refl _ _) _⟩
  go_enter Try.func46, Try.ntmps46
  go_upto_region 1 with (fail)
  have hgp : g ≠ w.heap.size := Nat.ne_of_lt hg
  have hpg : w.heap.size ≠ g := Ne.symm hgp
  generalize w.alloc (.cells #[.int .i64 44, .int .i64 (d : Int), .int .i64 (a : Int), .int .i64 (b : Int), .int .i32 i] 67) = W at *
  have mW : Aside0 (RW W base g gm h v s) := ⟨m.out.below hb.out⟩
  have fW : Aside0 (Fr (SR g h v) w W) := ⟨Fr.of_below hb.out _⟩
  have da := (Below.cell hb.out (p := ⟨g, 7 + a, none⟩) hg).trans ca
  have dd := (Below.cell hb.out (p := ⟨g, 7 + d, none⟩) hg).trans cd
  have d23 := (Below.cell hb.out (p := ⟨g, 23, none⟩) hg).trans c23
  have y0 := (blk_cell hr.out 0).trans (show _ = some (.int .i64 44) from rfl)
  have y1 := (blk_cell hr.out 1).trans (show _ = some (.int .i64 (d : Int)) from rfl)
  have y2 := (blk_cell hr.out 2).trans (show _ = some (.int .i64 (a : Int)) from rfl)
  have y4 := (blk_cell hr.out 4).trans (show _ = some (.int .i32 i) from rfl)
  clear ca cd c23
  have d5 := (Below.cell hb.out (p := ⟨g, 5, none⟩) hg).trans c5
  have d31 := (Below.cell hb.out (p := ⟨g, 31, none⟩) hg).trans c31
  go_upto_region 12 with (fail)
  go_quiet (fail)
  have mX : Aside0 (RW (W.drewN nq) base g gm h v s) := ⟨mW.out.below (bdn0 _ _)⟩
  have fX : Aside0 (Fr (SR g h v) w (W.drewN nq)) := ⟨fW.out.trans (Fr.of_below (bdn0 _ _) _)⟩
  have z1 : (W.drewN nq).cell? ⟨w.heap.size, 1, none⟩ = some (.int .i64 (d : Int)) := y1
  have z5 : (W.drewN nq).cell? ⟨g, 5, none⟩ = some (.string s.inp) := d5
  have z31 : (W.drewN nq).cell? ⟨g, 31, none⟩ = some (.int .i64 (s.used : Int)) := d31
  generalize W.drewN nq = X at *
  clear da dd d23 y0 y1 y2 y4 d5 d31 c5 c31
  go_upto_region 13 with (fail)
  go_quiet (fail)
  have mY : Aside0 (RW (X.drewN nq) base g gm h v s) := ⟨mX.out.below (bdn0 _ _)⟩
  have fY : Aside0 (Fr (SR g h v) w (X.drewN nq)) := ⟨fX.out.trans (Fr.of_below (bdn0 _ _) _)⟩
  have x1 : (X.drewN nq).cell? ⟨w.heap.size, 1, none⟩ = some (.int .i64 (d : Int)) := z1
  have x31 : (X.drewN nq).cell? ⟨g, 31, none⟩ = some (.int .i64 (s.used : Int)) := z31
  have x31f := mY.out.fz 31
  generalize X.drewN nq = Y at *
  clear z1 z5 z31 mX fX mW fW hb hr
  have ec : ((s.used + 1 : Nat) : Int) = (s.used : Int) + 1 := by omega
  have m2 : Aside0 (RW (Y.setCell ⟨g, 31, none⟩ (.int .i64 ((s.used : Int) + 1))) base g gm h v s.use) := ⟨by rw [← ec]; exact mY.out.tl_set (t := s.use) 8 _ rfl rfl rfl rfl rfl hok.out⟩
  clear ec
  have x1b : (Y.setCell ⟨g, 31, none⟩ (.int .i64 ((s.used : Int) + 1))).cell? ⟨w.heap.size, 1, none⟩ = some (.int .i64 (d : Int)) := (World.cell?_setCell_far Y ⟨g, 31, none⟩ ⟨w.heap.size, 1, none⟩ _ hgp).trans x1
  have f2 : Aside0 (Fr (SR g h v) w (Y.setCell ⟨g, 31, none⟩ (.int .i64 ((s.used : Int) + 1)))) := ⟨fY.out.setCell (p := ⟨g, 31, none⟩) (.inl rfl) _⟩
  go_upto_region 15 with (fail)
  generalize Y.setCell ⟨g, 31, none⟩ (.int .i64 ((s.used : Int) + 1)) = Z at *
  have hgV2 : Aside0 ((s.inp[s.used].toNat : Int) % 4294967296 = (s.inp[s.used].toNat : Int)) := ⟨by omega⟩
  go_wp2_with (go_at_call 44; (with_reducible refine (rset m2 d hd _ (by omega) (by omega)).mono ?_); rintro e w3 ⟨rfl, m3, o3⟩; replace m3 := Aside0.mk m3; replace o3 := Aside0.mk o3)
  go_end0
  have hm3 := m3.out
  try rw [hgV2.out] at hm3
  exact ⟨rfl, v, by rw [hgS.out, hgV.out]; exact hm3, .inl rfl, f2.out.trans (o3.out.mono SR.g)⟩

theorem RW.push {W w1 : World} {base g gm h : Nat} {v v1 : Value} {s : Mc} (m : RW W base g gm h v s) (x : Int) (ho : Kd.R (Kd.int .u8) 5 w1 base (fun _ => True) v1 (s.out ++ [x])) (hg : W.grownBy w1 v.ownBlock) :
    RW (w1.setCell ⟨g, 30, none⟩ v1) base g gm h v1 (s.put x) := by
  have n1 : some g ≠ v.ownBlock := Kd.R_ne m.out m.blk (by decide)
  have n2 : some gm ≠ v.ownBlock := Kd.R_ne m.out m.mem.cell (by decide)
  have n3 : some h ≠ v.ownBlock := fun e => m.h_own h e.symm rfl
  have b1 := blk_grown m.blk hg n1
  refine ⟨?_, (m.mem.grown hg n2 n3).far (p := ⟨g, 30, none⟩) m.ne_gm m.ne_h _, Kd.R_set ho b1 (by decide) 30 v1, m.hb, ⟨m.ok.rl, m.ok.r0, m.ok.ml, m.ok.m0, m.ok.ul, m.ok.il, m.ok.cl, m.ok.p0, m.ok.c4⟩⟩
  rw [blk_set b1 30 v1, ← Mc.rset_tl (t := s.put x) m.ok.rl gm v v1 v1 7 rfl rfl rfl]
  simp
theorem Fr.of_grown' {W w1 : World} {row : Option Nat} (hg : W.grownBy w1 row) : Fr (fun k => row = some k) W w1 := ⟨hg.os, hg.tape, hg.output, hg.size, fun i hi hn => hg.block i hi (fun e => hn e.symm)⟩

set_option maxHeartbeats 8000000 in
set_option maxRecDepth 100000 in
theorem do_45 {w : World} {base g gm h : Nat} {v : Value} {s : Mc} (m : Aside0 (RW w base g gm h v s)) {d a b : Nat} {i : Int} (hbs : base ≤ w.heap.size) (hol : s.out.length < 1099511627776) (hd : d < 16) (ha : a < 16) (hp0 : 0 ≤ s.pc) (hp1 : s.pc ≤ 1048576) (i0 : -8388608 ≤ i) (i1 : i ≤ 8388607) :
    Calls Try.prog 46 #[PM g, insV 45 d a b i] w (DoP g base gm h v (s.put (s.regs.getD a 0 % 256)) w) := by
  have ca := m.out.c_rg a ha
  have cd := m.out.c_rg d hd
  have c23 : w.cell? ⟨g, 23, none⟩ = some (.int .i64 s.pc) := (m.out.c_tl 0).trans rfl
  have hg := blk_lt m.out.blk
  have q1 : (a : Int) < 16 := by omega
  have q2 : (d : Int) < 16 := by omega
  have r1 := add1 g 7 a
  have r2 := add1 g 7 d
  obtain ⟨xa0, xa1⟩ := m.out.ok.r0 a
  obtain ⟨xd0, xd1⟩ := m.out.ok.r0 d
  generalize hra : s.regs.getD a 0 = ra at *
  generalize hrd : s.regs.getD d 0 = rd at *
  generalize hpc : s.pc = pc at *
  replace hra := Aside0.mk hra
  replace hrd := Aside0.mk hrd
  replace hpc := Aside0.mk hpc
  have hr : Aside0 ((w.alloc (.cells #[.int .i64 45, .int .i64 (d : Int), .int .i64 (a : Int), .int .i64 (b : Int), .int .i32 i] 67)).heap[w.heap.size]? = some (.cells #[.int .i64 45, .int .i64 (d : Int), .int .i64 (a : Int), .int .i64 (b : Int), .int .i32 i] 67 (0, 0))) := ⟨blk_new w _⟩
  have hb : Aside0 (Below w.heap.size w (w.alloc (.cells #[.int .i64 45, .int .i64 (d : Int), .int .i64 (a : Int), .int .i64 (b : Int), .int .i32 i] 67))) := ⟨below_alloc (Below.refl _ _) _⟩
  go_enter Try.func46, Try.ntmps46
  go_upto_region 1 with (fail)
  have hgp : g ≠ w.heap.size := Nat.ne_of_lt hg
  have hpg : w.heap.size ≠ g := Ne.symm hgp
  generalize w.alloc (.cells #[.int .i64 45, .int .i64 (d : Int), .int .i64 (a : Int), .int .i64 (b : Int), .int .i32 i] 67) = W at *
  have mW : Aside0 (RW W base g gm h v s) := ⟨m.out.below hb.out⟩
  have fW : Aside0 (Fr (SR g h v) w W) := ⟨Fr.of_below hb.out _⟩
  have da := (Below.cell hb.out (p := ⟨g, 7 + a, none⟩) hg).trans ca
  have dd := (Below.cell hb.out (p := ⟨g, 7 + d, none⟩) hg).trans cd
  have d23 := (Below.cell hb.out (p := ⟨g, 23, none⟩) hg).trans c23
  have y0 := (blk_cell hr.out 0).trans (show _ = some (.int .i64 45) from rfl)
  have y1 := (blk_cell hr.out 1).trans (show _ = some (.int .i64 (d : Int)) from rfl)
  have y2 := (blk_cell hr.out 2).trans (show _ = some (.int .i64 (a : Int)) from rfl)
  have y4 := (blk_cell hr.out 4).trans (show _ = some (.int .i32 i) from rfl)
  clear ca cd c23
  have x30 : W.cell? ⟨g, 30, none⟩ = some v := (mW.out.c_tl 7).trans rfl
  have f30 := mW.out.fz 30
  obtain ⟨A, c, rfl⟩ := Kd.R_slice mW.out.out
  generalize hout : s.out = out at *
  replace hout := Aside0.mk hout
  have hsW : w.heap.size ≤ W.heap.size := hb.out.size
  go_upto_region 17 with (fail)
  refine wp_region_noPanic ?_
  refine Lex.region_lexS (fun w' => w'.cell? ⟨g, 30, none⟩ = some (.slice A out.length c) ∧ w'.cell? ⟨w.heap.size, 2, none⟩ = some (.int .i64 (a : Int)) ∧ w'.cell? ⟨g, 7 + a, none⟩ = some (.int .u32 ra)) 13 (by kernel_rfl) (by kernel_rfl) (by decide) (by kernel_rfl) (fun _ _ _ _ _ h => h) ⟨x30, y2, da⟩ ?_
  simp only [List.take_succ_cons, List.take_zero]
  iterate 13 (refine Lex.wpYS_step _ (by rfl) (by intro w' hS; obtain ⟨s1, s2, s3⟩ := hS; go_simp; try with_reducible rfl) ?_; try simp only [Act.put, List.setIfInBounds_toArray, List.set_cons_zero, List.set_cons_succ])
  refine Lex.wpYS_nil ?_
  have mY : Aside0 (RW W.drew base g gm h (.slice A out.length c) s) := ⟨mW.out.below (below_drew (Below.refl _ _))⟩
  have fY : Aside0 (Fr (SR g h (.slice A out.length c)) w W.drew) := ⟨fW.out.trans (Fr.of_below (below_drew (Below.refl _ _)) _)⟩
  have hsY : w.heap.size ≤ W.drew.heap.size := hsW
  have s30 : W.drew.cell? ⟨g, 30, none⟩ = some (.slice A out.length c) := x30
  have s2 : W.drew.cell? ⟨w.heap.size, 2, none⟩ = some (.int .i64 (a : Int)) := y2
  have sa : W.drew.cell? ⟨g, 7 + a, none⟩ = some (.int .u32 ra) := da
  have hrY : Aside0 (W.drew.heap[w.heap.size]? = some (.cells #[.int .i64 45, .int .i64 (d : Int), .int .i64 (a : Int), .int .i64 (b : Int), .int .i32 i] 67 (0, 0))) := ⟨blk_drew hr.out⟩
  generalize W.drew = Y at *
  refine Lex.wpAnyT_one (i := 13) (by kernel_rfl) rfl (fun K hK => ?_)
  go_simp
  refine hK _ _ (fun _ => ⟨(World.cell?_alloc_lt _ _ _ (blk_lt mY.out.blk)).trans s30, (World.cell?_alloc_lt _ _ _ (blk_lt hrY.out)).trans s2, (World.cell?_alloc_lt _ _ _ (blk_lt mY.out.blk)).trans sa⟩) ?_
  clear hK K
  have hu8 : IntKind.u8.wrap ra = ra % 256 := rfl
  rw [hu8]
  refine Lex.wpAnyT_one (i := 14) (by kernel_rfl) rfl (fun K hK => ?_)
  refine Kd.R_append_step (Kd.int .u8) (w0 := Y) base (by rfl) (.tmp 104) (.tmp 113) 46 5 (.int .u8 0) 1 rfl Try.underlying46 info5 rfl (by decide) (by omega) (.slice A out.length c) out (ra % 256) [.int .u8 (ra % 256)] (fun _ => True) (fun _ => False) rfl rfl ?aP (fun _ hk => hk.elim) ?aF ?aO ?aB ?aS ?aL ?_
  case aP => exact rfl
  case aB => exact Below.refl _ _
  case aF => exact fun _ _ => trivial
  case aO => have := mY.out.out; rw [hout.out] at this; exact this
  case aS => exact Nat.le_trans hbs hsY
  case aL => have hol2 : out.length < 1099511627776 := hol
             omega
  intro v1 w4 ho hb4 hg4 hat
  have hm4 := mY.out.push (ra % 256) (by rw [hout.out]; exact ho) hg4
  refine hK _ _ (fun _ => ⟨?_, ?_, ?_⟩) ?_
  · exact (blk_cell (blk_grown mY.out.blk hg4 (Kd.R_ne mY.out.out mY.out.blk (by decide))) 30).trans ((by rw [← blk_cell mY.out.blk 30]; exact s30))
  · exact (blk_cell (blk_grown hrY.out hg4 (Kd.R_ne mY.out.out hrY.out (by decide))) 2).trans rfl
  · exact (blk_cell (blk_grown mY.out.blk hg4 (Kd.R_ne mY.out.out mY.out.blk (by decide))) (7 + a)).trans ((by rw [← blk_cell mY.out.blk (7 + a)]; exact sa))
  clear hK K
  have f4 : Aside0 (Fr (SR g h (.slice A out.length c)) w w4) := ⟨fY.out.trans ((Fr.of_grown' hg4).mono (fun k hk => .inr (.inr hk)))⟩
  have z30 : w4.cell? ⟨g, 30, none⟩ = some (.slice A out.length c) := (blk_cell (blk_grown mY.out.blk hg4 (Kd.R_ne mY.out.out mY.out.blk (by decide))) 30).trans ((by rw [← blk_cell mY.out.blk 30]; exact s30))
  have zf := blk_frozen (blk_grown mY.out.blk hg4 (Kd.R_ne mY.out.out mY.out.blk (by decide))) 30
  obtain ⟨A1, c1, rfl⟩ := Kd.R_slice ho
  have hlen : (out ++ [ra % 256]).length = out.length + 1 := by simp
  rw [hlen] at hm4 hat
  replace hm4 := Aside0.mk hm4
  replace hat := Aside0.mk hat
  clear ho hb4 hg4 x30 f30 da dd d23 y0 y1 y2 y4 s30 s2 sa
  refine Lex.wpAnyT_one (i := 15) (by kernel_rfl) rfl (fun K hK => ?_)
  go_simp
  refine hK _ _ (fun hla => nomatch (Eq.trans (by kernel_rfl) hla : true = false)) ?_
  clear hK K
  refine Lex.wpAnyT_one (i := 16) (by kernel_rfl) rfl (fun K hK => ?_)
  go_simp
  refine hK _ _ (fun hla => nomatch (Eq.trans (by kernel_rfl) hla : true = false)) ?_
  clear hK K
  refine Lex.wpAnyT_one (i := 17) (by kernel_rfl) rfl (fun K hK => ?_)
  go_simp
  refine hK _ _ (fun hla => nomatch (Eq.trans (by kernel_rfl) hla : true = false)) ?_
  clear hK K
  refine Lex.wpAnyT_done (by kernel_rfl) (NoPanic.normal ?_) _
  go_wp2_with fail
  go_end0
  exact ⟨rfl, _, hm4.out, hat.out.imp id (fun ⟨b, e1, e2⟩ => ⟨b, e1, Nat.le_trans hsY e2⟩), f4.out.setCell (p := ⟨g, 30, none⟩) (.inl rfl) _⟩

set_option maxHeartbeats 8000000 in
set_option maxRecDepth 100000 in
theorem do_47 {w : World} {base g gm h : Nat} {v : Value} {s : Mc} (m : Aside0 (RW w base g gm h v s)) {d a b : Nat} {i : Int} (hd : d < 16) (ha : a < 16) (hp0 : 0 ≤ s.pc) (hp1 : s.pc ≤ 1048576) (i0 : -8388608 ≤ i) (i1 : i ≤ 8388607) :
    Calls Try.prog 46 #[PM g, insV 47 d a b i] w (DoP g base gm h v (s.halt (wrap32 (s.regs.getD a 0))) w) := by
  have ca := m.out.c_rg a ha
  have cd := m.out.c_rg d hd
  have c23 : w.cell? ⟨g, 23, none⟩ = some (.int .i64 s.pc) := (m.out.c_tl 0).trans rfl
  have hg := blk_lt m.out.blk
  have q1 : (a : Int) < 16 := by omega
  have q2 : (d : Int) < 16 := by omega
  have r1 := add1 g 7 a
  have r2 := add1 g 7 d
  obtain ⟨xa0, xa1⟩ := m.out.ok.r0 a
  obtain ⟨xd0, xd1⟩ := m.out.ok.r0 d
  generalize hra : s.regs.getD a 0 = ra at *
  generalize hrd : s.regs.getD d 0 = rd at *
  generalize hpc : s.pc = pc at *
  replace hra := Aside0.mk hra
  replace hrd := Aside0.mk hrd
  replace hpc := Aside0.mk hpc
  have hr : Aside0 ((w.alloc (.cells #[.int .i64 47, .int .i64 (d : Int), .int .i64 (a : Int), .int .i64 (b : Int), .int .i32 i] 67)).heap[w.heap.size]? = some (.cells #[.int .i64 47, .int .i64 (d : Int), .int .i64 (a : Int), .int .i64 (b : Int), .int .i32 i] 67 (0, 0))) := ⟨blk_new w _⟩
  have hb : Aside0 (Below w.heap.size w (w.alloc (.cells #[.int .i64 47, .int .i64 (d : Int), .int .i64 (a : Int), .int .i64 (b : Int), .int .i32 i] 67))) := ⟨below_alloc (Below.refl _ _) _⟩
  go_enter Try.func46, Try.ntmps46
  go_upto_region 1 with (fail)
  have hgp : g ≠ w.heap.size := Nat.ne_of_lt hg
  have hpg : w.heap.size ≠ g := Ne.symm hgp
  generalize w.alloc (.cells #[.int .i64 47, .int .i64 (d : Int), .int .i64 (a : Int), .int .i64 (b : Int), .int .i32 i] 67) = W at *
  have mW : Aside0 (RW W base g gm h v s) := ⟨m.out.below hb.out⟩
  have fW : Aside0 (Fr (SR g h v) w W) := ⟨Fr.of_below hb.out _⟩
  have da := (Below.cell hb.out (p := ⟨g, 7 + a, none⟩) hg).trans ca
  have dd := (Below.cell hb.out (p := ⟨g, 7 + d, none⟩) hg).trans cd
  have d23 := (Below.cell hb.out (p := ⟨g, 23, none⟩) hg).trans c23
  have y0 := (blk_cell hr.out 0).trans (show _ = some (.int .i64 47) from rfl)
  have y1 := (blk_cell hr.out 1).trans (show _ = some (.int .i64 (d : Int)) from rfl)
  have y2 := (blk_cell hr.out 2).trans (show _ = some (.int .i64 (a : Int)) from rfl)
  have y4 := (blk_cell hr.out 4).trans (show _ = some (.int .i32 i) from rfl)
  clear ca cd c23
  have x24 : W.cell? ⟨g, 24, none⟩ = some (.bool s.ended) := (mW.out.c_tl 1).trans rfl
  have f24 := mW.out.fz 24
  go_upto_region 22 with (fail)
  have k0 := mW.out.ok
  have mE : Aside0 (RW (W.setCell ⟨g, 24, none⟩ (.bool true)) base g gm h v { s with ended := true }) := ⟨mW.out.tl_set (t := { s with ended := true }) 1 (.bool true) rfl rfl rfl rfl rfl ⟨k0.rl, k0.r0, k0.ml, k0.m0, k0.ul, k0.il, k0.cl, k0.p0, k0.c4⟩⟩
  have fE : Aside0 (Fr (SR g h v) w (W.setCell ⟨g, 24, none⟩ (.bool true))) := ⟨fW.out.setCell (p := ⟨g, 24, none⟩) (.inl rfl) _⟩
  have e2 : (W.setCell ⟨g, 24, none⟩ (.bool true)).cell? ⟨w.heap.size, 2, none⟩ = some (.int .i64 (a : Int)) := (World.cell?_setCell_far W ⟨g, 24, none⟩ ⟨w.heap.size, 2, none⟩ _ hgp).trans y2
  have ea : (W.setCell ⟨g, 24, none⟩ (.bool true)).cell? ⟨g, 7 + a, none⟩ = some (.int .u32 ra) := (mE.out.c_rg a ha).trans (by show some (Value.int .u32 (s.regs.getD a 0)) = _; rw [hra.out])
  generalize W.setCell ⟨g, 24, none⟩ (.bool true) = X at *
  clear da dd d23 y0 y1 y2 y4 x24 f24 mW fW hb hr k0
  go_still_tail 12, (by kernel_rfl)
  change wpList _ _ _ _ _ X.drew
  have mY : Aside0 (RW X.drew base g gm h v { s with ended := true }) := ⟨mE.out.below (below_drew (Below.refl _ _))⟩
  have fY : Aside0 (Fr (SR g h v) w X.drew) := ⟨fE.out.trans (Fr.of_below (below_drew (Below.refl _ _)) _)⟩
  generalize X.drew = Y at *
  clear e2 ea mE fE
  have x25 : Y.cell? ⟨g, 25, none⟩ = some (.int .i64 s.kind) := (mY.out.c_tl 2).trans rfl
  have x26 : Y.cell? ⟨g, 26, none⟩ = some (.int .i32 s.ecode) := (mY.out.c_tl 3).trans rfl
  have x27 : Y.cell? ⟨g, 27, none⟩ = some (.int .i64 s.trap) := (mY.out.c_tl 4).trans rfl
  have x28 : Y.cell? ⟨g, 28, none⟩ = some (.string ⟨#[]⟩) := (mY.out.c_tl 5).trans rfl
  have x29 : Y.cell? ⟨g, 29, none⟩ = some (.int .i64 0) := (mY.out.c_tl 6).trans rfl
  have f25 := mY.out.fz 25
  have f26 := mY.out.fz 26
  have f27 := mY.out.fz 27
  have f28 := mY.out.fz 28
  have f29 := mY.out.fz 29
  go_wp2_with fail
  go_end0
  have k0 := mY.out.ok
  have m2 := mY.out.tl_set (t := { s with ended := true, kind := 1 }) 2 (.int .i64 1) rfl rfl rfl rfl rfl ⟨k0.rl, k0.r0, k0.ml, k0.m0, k0.ul, k0.il, k0.cl, k0.p0, k0.c4⟩
  have m3 := m2.tl_set (t := { s with ended := true, kind := 1, ecode := wrap32 ra }) 3 (.int .i32 (wrap32 ra)) rfl rfl rfl rfl rfl ⟨k0.rl, k0.r0, k0.ml, k0.m0, k0.ul, k0.il, k0.cl, k0.p0, k0.c4⟩
  have m4 := m3.tl_set (t := s.halt (wrap32 ra)) 4 (.int .i64 0) rfl rfl rfl rfl rfl ⟨k0.rl, k0.r0, k0.ml, k0.m0, k0.ul, k0.il, k0.cl, k0.p0, k0.c4⟩
  have m5 := m4.tl_set (t := s.halt (wrap32 ra)) 5 (.string ⟨#[]⟩) rfl rfl rfl rfl rfl ⟨k0.rl, k0.r0, k0.ml, k0.m0, k0.ul, k0.il, k0.cl, k0.p0, k0.c4⟩
  have m6 := m5.tl_set (t := s.halt (wrap32 ra)) 6 (.int .i64 0) rfl rfl rfl rfl rfl ⟨k0.rl, k0.r0, k0.ml, k0.m0, k0.ul, k0.il, k0.cl, k0.p0, k0.c4⟩
  exact ⟨rfl, v, m6, .inl rfl, ((((fY.out.setCell (p := ⟨g, 25, none⟩) (.inl rfl) _).setCell (p := ⟨g, 26, none⟩) (.inl rfl) _).setCell (p := ⟨g, 27, none⟩) (.inl rfl) _).setCell (p := ⟨g, 28, none⟩) (.inl rfl) _).setCell (p := ⟨g, 29, none⟩) (.inl rfl) _⟩

set_option maxHeartbeats 8000000 in
set_option maxRecDepth 100000 in
theorem do_46 {w : World} {base g gm h : Nat} {v : Value} {s : Mc} (m : Aside0 (RW w base g gm h v s)) {d a b : Nat} {i : Int} (hd : d < 16) (ha : a < 16) (hp0 : 0 ≤ s.pc) (hp1 : s.pc ≤ 1048576) (i0 : -8388608 ≤ i) (i1 : i ≤ 8388607) :
    Calls Try.prog 46 #[PM g, insV 46 d a b i] w (DoP g base gm h v (s.trapK i) w) := by
  have ca := m.out.c_rg a ha
  have cd := m.out.c_rg d hd
  have c23 : w.cell? ⟨g, 23, none⟩ = some (.int .i64 s.pc) := (m.out.c_tl 0).trans rfl
  have hg := blk_lt m.out.blk
  have q1 : (a : Int) < 16 := by omega
  have q2 : (d : Int) < 16 := by omega
  have r1 := add1 g 7 a
  have r2 := add1 g 7 d
  obtain ⟨xa0, xa1⟩ := m.out.ok.r0 a
  obtain ⟨xd0, xd1⟩ := m.out.ok.r0 d
  generalize hra : s.regs.getD a 0 = ra at *
  generalize hrd : s.regs.getD d 0 = rd at *
  generalize hpc : s.pc = pc at *
  replace hra := Aside0.mk hra
  replace hrd := Aside0.mk hrd
  replace hpc := Aside0.mk hpc
  have hr : Aside0 ((w.alloc (.cells #[.int .i64 46, .int .i64 (d : Int), .int .i64 (a : Int), .int .i64 (b : Int), .int .i32 i] 67)).heap[w.heap.size]? = some (.cells #[.int .i64 46, .int .i64 (d : Int), .int .i64 (a : Int), .int .i64 (b : Int), .int .i32 i] 67 (0, 0))) := ⟨blk_new w _⟩
  have hb : Aside0 (Below w.heap.size w (w.alloc (.cells #[.int .i64 46, .int .i64 (d : Int), .int .i64 (a : Int), .int .i64 (b : Int), .int .i32 i] 67))) := ⟨below_alloc (Below.refl _ _) _⟩
  go_enter Try.func46, Try.ntmps46
  go_upto_region 1 with (fail)
  have hgp : g ≠ w.heap.size := Nat.ne_of_lt hg
  have hpg : w.heap.size ≠ g := Ne.symm hgp
  generalize w.alloc (.cells #[.int .i64 46, .int .i64 (d : Int), .int .i64 (a : Int), .int .i64 (b : Int), .int .i32 i] 67) = W at *
  have mW : Aside0 (RW W base g gm h v s) := ⟨m.out.below hb.out⟩
  have fW : Aside0 (Fr (SR g h v) w W) := ⟨Fr.of_below hb.out _⟩
  have da := (Below.cell hb.out (p := ⟨g, 7 + a, none⟩) hg).trans ca
  have dd := (Below.cell hb.out (p := ⟨g, 7 + d, none⟩) hg).trans cd
  have d23 := (Below.cell hb.out (p := ⟨g, 23, none⟩) hg).trans c23
  have y0 := (blk_cell hr.out 0).trans (show _ = some (.int .i64 46) from rfl)
  have y1 := (blk_cell hr.out 1).trans (show _ = some (.int .i64 (d : Int)) from rfl)
  have y2 := (blk_cell hr.out 2).trans (show _ = some (.int .i64 (a : Int)) from rfl)
  have y4 := (blk_cell hr.out 4).trans (show _ = some (.int .i32 i) from rfl)
  clear ca cd c23
  go_wp2_with (go_at_call 41; (with_reducible refine (rtrap mW i).mono ?_); rintro e w3 ⟨rfl, m3, o3⟩; replace m3 := Aside0.mk m3; replace o3 := Aside0.mk o3)
  go_end0
  exact ⟨rfl, v, m3.out, .inl rfl, fW.out.trans (o3.out.mono SR.g)⟩

set_option maxHeartbeats 8000000 in
set_option maxRecDepth 100000 in
theorem do_no {w : World} {base g gm h : Nat} {v : Value} {s : Mc} (m : Aside0 (RW w base g gm h v s)) {d a b : Nat} {i : Int} {op : Int} (ho : op = 39 ∨ op = 40 ∨ op = 41 ∨ op = 43) (hd : d < 16) (ha : a < 16) (hp0 : 0 ≤ s.pc) (hp1 : s.pc ≤ 1048576) (i0 : -8388608 ≤ i) (i1 : i ≤ 8388607) :
    Calls Try.prog 46 #[PM g, insV op d a b i] w (DoP g base gm h v s w) := by
  have ca := m.out.c_rg a ha
  have cd := m.out.c_rg d hd
  have c23 : w.cell? ⟨g, 23, none⟩ = some (.int .i64 s.pc) := (m.out.c_tl 0).trans rfl
  have hg := blk_lt m.out.blk
  have q1 : (a : Int) < 16 := by omega
  have q2 : (d : Int) < 16 := by omega
  have r1 := add1 g 7 a
  have r2 := add1 g 7 d
  obtain ⟨xa0, xa1⟩ := m.out.ok.r0 a
  obtain ⟨xd0, xd1⟩ := m.out.ok.r0 d
  have n32 : (op == 32) = false := by rw [beq_eq_false_iff_ne]; omega
  have n33 : (op == 33) = false := by rw [beq_eq_false_iff_ne]; omega
  have n34 : (op == 34) = false := by rw [beq_eq_false_iff_ne]; omega
  have n42 : (op == 42) = false := by rw [beq_eq_false_iff_ne]; omega
  have n44 : (op == 44) = false := by rw [beq_eq_false_iff_ne]; omega
  have n45 : (op == 45) = false := by rw [beq_eq_false_iff_ne]; omega
  have n46 : (op == 46) = false := by rw [beq_eq_false_iff_ne]; omega
  have n47 : (op == 47) = false := by rw [beq_eq_false_iff_ne]; omega
  generalize hra : s.regs.getD a 0 = ra at *
  generalize hrd : s.regs.getD d 0 = rd at *
  generalize hpc : s.pc = pc at *
  replace hra := Aside0.mk hra
  replace hrd := Aside0.mk hrd
  replace hpc := Aside0.mk hpc
  have hr : Aside0 ((w.alloc (.cells #[.int .i64 op, .int .i64 (d : Int), .int .i64 (a : Int), .int .i64 (b : Int), .int .i32 i] 67)).heap[w.heap.size]? = some (.cells #[.int .i64 op, .int .i64 (d : Int), .int .i64 (a : Int), .int .i64 (b : Int), .int .i32 i] 67 (0, 0))) := ⟨blk_new w _⟩
  have hb : Aside0 (Below w.heap.size w (w.alloc (.cells #[.int .i64 op, .int .i64 (d : Int), .int .i64 (a : Int), .int .i64 (b : Int), .int .i32 i] 67))) := ⟨below_alloc (Below.refl _ _) _⟩
  go_enter Try.func46, Try.ntmps46
  go_upto_region 1 with (fail)
  have hgp : g ≠ w.heap.size := Nat.ne_of_lt hg
  have hpg : w.heap.size ≠ g := Ne.symm hgp
  generalize w.alloc (.cells #[.int .i64 op, .int .i64 (d : Int), .int .i64 (a : Int), .int .i64 (b : Int), .int .i32 i] 67) = W at *
  have mW : Aside0 (RW W base g gm h v s) := ⟨m.out.below hb.out⟩
  have fW : Aside0 (Fr (SR g h v) w W) := ⟨Fr.of_below hb.out _⟩
  have da := (Below.cell hb.out (p := ⟨g, 7 + a, none⟩) hg).trans ca
  have dd := (Below.cell hb.out (p := ⟨g, 7 + d, none⟩) hg).trans cd
  have d23 := (Below.cell hb.out (p := ⟨g, 23, none⟩) hg).trans c23
  have y0 := (blk_cell hr.out 0).trans (show _ = some (.int .i64 op) from rfl)
  have y1 := (blk_cell hr.out 1).trans (show _ = some (.int .i64 (d : Int)) from rfl)
  have y2 := (blk_cell hr.out 2).trans (show _ = some (.int .i64 (a : Int)) from rfl)
  have y4 := (blk_cell hr.out 4).trans (show _ = some (.int .i32 i) from rfl)
  clear ca cd c23
  go_wp2_with fail
  go_end0
  exact ⟨rfl, v, mW.out, .inl rfl, fW.out⟩

end Go.Proofs.Ytbhkfdjofopfkaa.MemA
