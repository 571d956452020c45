/- The reference's machine: goes (printed by mkR.py of session 4). -/
import Derived.Test.YtbhkfdjofopfkaaRaB
namespace Go.Proofs.Ytbhkfdjofopfkaa.MemA
open Go.RowKit Go.Proofs.YtbhkfdjofopfkaaW.PrintWords Go.Proofs.YtbhkfdjofopfkaaW.PrintLast
set_option linter.unusedVariables false
set_option linter.unusedSimpArgs false

/-- The blocks that a step of the reference's may turn. -/
def SR (g h : Nat) (v : Value) (k : Nat) : Prop := k = g ∨ k = h ∨ v.ownBlock = some k
theorem SR.g {g h : Nat} {v : Value} : ∀ k, k = g → SR g h v k := fun k hk => .inl hk
theorem SR.h {g h : Nat} {v : Value} : ∀ k, k = h → SR g h v k := fun k hk => .inr (.inl hk)
/-- The next place. -/
def Mc.goes (s : Mc) (op : Int) (a : Nat) (i : Int) : Int :=
  if op = 39 then (if s.regs.getD a 0 = 0 then s.pc + 4 + 4 * i else s.pc + 4)
  else if op = 40 then (if s.regs.getD a 0 = 0 then s.pc + 4 else s.pc + 4 + 4 * i)
  else if op = 41 ∨ op = 42 then s.pc + 4 + 4 * i
  else if op = 43 then s.regs.getD a 0
  else s.pc + 4
def GoesP (n : Int) (w : World) (e : Ending) (w' : World) : Prop := e = .returned (.int .i64 n) ∧ Below w.heap.size w w'

set_option maxHeartbeats 8000000 in
set_option maxRecDepth 100000 in
theorem goes_39z {w : World} {base g gm h : Nat} {v : Value} {s : Mc} (m : Aside0 (RW w base g gm h v s)) {d a b : Nat} {i : Int} (hz : s.regs.getD a 0 = 0) (hd : d < 16) (ha : a < 16) (hp0 : 0 ≤ s.pc) (hp1 : s.pc ≤ 1048576) (i0 : -8388608 ≤ i) (i1 : i ≤ 8388607) :
    Calls Try.prog 42 #[PM g, insV 39 d a b i] w (GoesP (s.goes 39 a i) w) := by
  have ca := m.out.c_rg a ha
  have cd := m.out.c_rg d hd
  have c23 : w.cell? ⟨g, 23, none⟩ = some (.int .i64 s.pc) := (m.out.c_tl 0).trans rfl
  have hg := blk_lt m.out.blk
  have q1 : (a : Int) < 16 := by omega
  have q2 : (d : Int) < 16 := by omega
  have r1 := add1 g 7 a
  have r2 := add1 g 7 d
  obtain ⟨xa0, xa1⟩ := m.out.ok.r0 a
  obtain ⟨xd0, xd1⟩ := m.out.ok.r0 d
  generalize hra : s.regs.getD a 0 = ra at *
  generalize hrd : s.regs.getD d 0 = rd at *
  generalize hpc : s.pc = pc at *
  replace hra := Aside0.mk hra
  replace hrd := Aside0.mk hrd
  replace hpc := Aside0.mk hpc
  have hr : Aside0 ((w.alloc (.cells #[.int .i64 39, .int .i64 (d : Int), .int .i64 (a : Int), .int .i64 (b : Int), .int .i32 i] 67)).heap[w.heap.size]? = some (.cells #[.int .i64 39, .int .i64 (d : Int), .int .i64 (a : Int), .int .i64 (b : Int), .int .i32 i] 67 (0, 0))) := ⟨blk_new w _⟩
  have hb : Aside0 (Below w.heap.size w (w.alloc (.cells #[.int .i64 39, .int .i64 (d : Int), .int .i64 (a : Int), .int .i64 (b : Int), .int .i32 i] 67))) := ⟨below_alloc (Below.refl _ _) _⟩
  have z1 : (ra == 0) = true := by simpa using hz
  have z2 : (ra != 0) = false := by simpa using hz
  replace hz := Aside0.mk hz
  go_enter Try.func42, Try.ntmps42
  go_upto_region 1 with (fail)
  have hgp : g ≠ w.heap.size := Nat.ne_of_lt hg
  have hpg : w.heap.size ≠ g := Ne.symm hgp
  generalize w.alloc (.cells #[.int .i64 39, .int .i64 (d : Int), .int .i64 (a : Int), .int .i64 (b : Int), .int .i32 i] 67) = W at *
  have mW : Aside0 (RW W base g gm h v s) := ⟨m.out.below hb.out⟩
  have fW : Aside0 (Fr (SR g h v) w W) := ⟨Fr.of_below hb.out _⟩
  have da := (Below.cell hb.out (p := ⟨g, 7 + a, none⟩) hg).trans ca
  have dd := (Below.cell hb.out (p := ⟨g, 7 + d, none⟩) hg).trans cd
  have d23 := (Below.cell hb.out (p := ⟨g, 23, none⟩) hg).trans c23
  have y0 := (blk_cell hr.out 0).trans (show _ = some (.int .i64 39) from rfl)
  have y1 := (blk_cell hr.out 1).trans (show _ = some (.int .i64 (d : Int)) from rfl)
  have y2 := (blk_cell hr.out 2).trans (show _ = some (.int .i64 (a : Int)) from rfl)
  have y4 := (blk_cell hr.out 4).trans (show _ = some (.int .i32 i) from rfl)
  clear ca cd c23
  go_upto_region 5 with (fail)
  go_quiet (fail)
  go_wp2_with fail
  go_ret
  exact ⟨by rw [show s.goes 39 a i = pc + 4 + 4 * i from by (show (if s.regs.getD a 0 = 0 then _ else _) = _); rw [hra.out, if_pos hz.out, hpc.out]]; rfl, (hb.out).trans ((bdn0 _ _).mono hb.out.size)⟩

set_option maxHeartbeats 8000000 in
set_option maxRecDepth 100000 in
theorem goes_39n {w : World} {base g gm h : Nat} {v : Value} {s : Mc} (m : Aside0 (RW w base g gm h v s)) {d a b : Nat} {i : Int} (hz : s.regs.getD a 0 ≠ 0) (hd : d < 16) (ha : a < 16) (hp0 : 0 ≤ s.pc) (hp1 : s.pc ≤ 1048576) (i0 : -8388608 ≤ i) (i1 : i ≤ 8388607) :
    Calls Try.prog 42 #[PM g, insV 39 d a b i] w (GoesP (s.goes 39 a i) w) := by
  have ca := m.out.c_rg a ha
  have cd := m.out.c_rg d hd
  have c23 : w.cell? ⟨g, 23, none⟩ = some (.int .i64 s.pc) := (m.out.c_tl 0).trans rfl
  have hg := blk_lt m.out.blk
  have q1 : (a : Int) < 16 := by omega
  have q2 : (d : Int) < 16 := by omega
  have r1 := add1 g 7 a
  have r2 := add1 g 7 d
  obtain ⟨xa0, xa1⟩ := m.out.ok.r0 a
  obtain ⟨xd0, xd1⟩ := m.out.ok.r0 d
  generalize hra : s.regs.getD a 0 = ra at *
  generalize hrd : s.regs.getD d 0 = rd at *
  generalize hpc : s.pc = pc at *
  replace hra := Aside0.mk hra
  replace hrd := Aside0.mk hrd
  replace hpc := Aside0.mk hpc
  have hr : Aside0 ((w.alloc (.cells #[.int .i64 39, .int .i64 (d : Int), .int .i64 (a : Int), .int .i64 (b : Int), .int .i32 i] 67)).heap[w.heap.size]? = some (.cells #[.int .i64 39, .int .i64 (d : Int), .int .i64 (a : Int), .int .i64 (b : Int), .int .i32 i] 67 (0, 0))) := ⟨blk_new w _⟩
  have hb : Aside0 (Below w.heap.size w (w.alloc (.cells #[.int .i64 39, .int .i64 (d : Int), .int .i64 (a : Int), .int .i64 (b : Int), .int .i32 i] 67))) := ⟨below_alloc (Below.refl _ _) _⟩
  have z1 : (ra == 0) = false := by simpa using hz
  have z2 : (ra != 0) = true := by simpa using hz
  replace hz := Aside0.mk hz
  go_enter Try.func42, Try.ntmps42
  go_upto_region 1 with (fail)
  have hgp : g ≠ w.heap.size := Nat.ne_of_lt hg
  have hpg : w.heap.size ≠ g := Ne.symm hgp
  generalize w.alloc (.cells #[.int .i64 39, .int .i64 (d : Int), .int .i64 (a : Int), .int .i64 (b : Int), .int .i32 i] 67) = W at *
  have mW : Aside0 (RW W base g gm h v s) := ⟨m.out.below hb.out⟩
  have fW : Aside0 (Fr (SR g h v) w W) := ⟨Fr.of_below hb.out _⟩
  have da := (Below.cell hb.out (p := ⟨g, 7 + a, none⟩) hg).trans ca
  have dd := (Below.cell hb.out (p := ⟨g, 7 + d, none⟩) hg).trans cd
  have d23 := (Below.cell hb.out (p := ⟨g, 23, none⟩) hg).trans c23
  have y0 := (blk_cell hr.out 0).trans (show _ = some (.int .i64 39) from rfl)
  have y1 := (blk_cell hr.out 1).trans (show _ = some (.int .i64 (d : Int)) from rfl)
  have y2 := (blk_cell hr.out 2).trans (show _ = some (.int .i64 (a : Int)) from rfl)
  have y4 := (blk_cell hr.out 4).trans (show _ = some (.int .i32 i) from rfl)
  clear ca cd c23
  go_upto_region 5 with (fail)
  go_quiet (fail)
  go_wp2_with fail
  go_ret
  exact ⟨by rw [show s.goes 39 a i = pc + 4 from by (show (if s.regs.getD a 0 = 0 then _ else _) = _); rw [hra.out, if_neg hz.out, hpc.out]]; rfl, (hb.out).trans ((bdn0 _ _).mono hb.out.size)⟩

set_option maxHeartbeats 8000000 in
set_option maxRecDepth 100000 in
theorem goes_40z {w : World} {base g gm h : Nat} {v : Value} {s : Mc} (m : Aside0 (RW w base g gm h v s)) {d a b : Nat} {i : Int} (hz : s.regs.getD a 0 = 0) (hd : d < 16) (ha : a < 16) (hp0 : 0 ≤ s.pc) (hp1 : s.pc ≤ 1048576) (i0 : -8388608 ≤ i) (i1 : i ≤ 8388607) :
    Calls Try.prog 42 #[PM g, insV 40 d a b i] w (GoesP (s.goes 40 a i) w) := by
  have ca := m.out.c_rg a ha
  have cd := m.out.c_rg d hd
  have c23 : w.cell? ⟨g, 23, none⟩ = some (.int .i64 s.pc) := (m.out.c_tl 0).trans rfl
  have hg := blk_lt m.out.blk
  have q1 : (a : Int) < 16 := by omega
  have q2 : (d : Int) < 16 := by omega
  have r1 := add1 g 7 a
  have r2 := add1 g 7 d
  obtain ⟨xa0, xa1⟩ := m.out.ok.r0 a
  obtain ⟨xd0, xd1⟩ := m.out.ok.r0 d
  generalize hra : s.regs.getD a 0 = ra at *
  generalize hrd : s.regs.getD d 0 = rd at *
  generalize hpc : s.pc = pc at *
  replace hra := Aside0.mk hra
  replace hrd := Aside0.mk hrd
  replace hpc := Aside0.mk hpc
  have hr : Aside0 ((w.alloc (.cells #[.int .i64 40, .int .i64 (d : Int), .int .i64 (a : Int), .int .i64 (b : Int), .int .i32 i] 67)).heap[w.heap.size]? = some (.cells #[.int .i64 40, .int .i64 (d : Int), .int .i64 (a : Int), .int .i64 (b : Int), .int .i32 i] 67 (0, 0))) := ⟨blk_new w _⟩
  have hb : Aside0 (Below w.heap.size w (w.alloc (.cells #[.int .i64 40, .int .i64 (d : Int), .int .i64 (a : Int), .int .i64 (b : Int), .int .i32 i] 67))) := ⟨below_alloc (Below.refl _ _) _⟩
  have z1 : (ra == 0) = true := by simpa using hz
  have z2 : (ra != 0) = false := by simpa using hz
  replace hz := Aside0.mk hz
  go_enter Try.func42, Try.ntmps42
  go_upto_region 1 with (fail)
  have hgp : g ≠ w.heap.size := Nat.ne_of_lt hg
  have hpg : w.heap.size ≠ g := Ne.symm hgp
  generalize w.alloc (.cells #[.int .i64 40, .int .i64 (d : Int), .int .i64 (a : Int), .int .i64 (b : Int), .int .i32 i] 67) = W at *
  have mW : Aside0 (RW W base g gm h v s) := ⟨m.out.below hb.out⟩
  have fW : Aside0 (Fr (SR g h v) w W) := ⟨Fr.of_below hb.out _⟩
  have da := (Below.cell hb.out (p := ⟨g, 7 + a, none⟩) hg).trans ca
  have dd := (Below.cell hb.out (p := ⟨g, 7 + d, none⟩) hg).trans cd
  have d23 := (Below.cell hb.out (p := ⟨g, 23, none⟩) hg).trans c23
  have y0 := (blk_cell hr.out 0).trans (show _ = some (.int .i64 40) from rfl)
  have y1 := (blk_cell hr.out 1).trans (show _ = some (.int .i64 (d : Int)) from rfl)
  have y2 := (blk_cell hr.out 2).trans (show _ = some (.int .i64 (a : Int)) from rfl)
  have y4 := (blk_cell hr.out 4).trans (show _ = some (.int .i32 i) from rfl)
  clear ca cd c23
  go_upto_region 8 with (fail)
  go_quiet (fail)
  go_wp2_with fail
  go_ret
  exact ⟨by rw [show s.goes 40 a i = pc + 4 from by (show (if s.regs.getD a 0 = 0 then _ else _) = _); rw [hra.out, if_pos hz.out, hpc.out]]; rfl, (hb.out).trans ((bdn0 _ _).mono hb.out.size)⟩

set_option maxHeartbeats 8000000 in
set_option maxRecDepth 100000 in
theorem goes_40n {w : World} {base g gm h : Nat} {v : Value} {s : Mc} (m : Aside0 (RW w base g gm h v s)) {d a b : Nat} {i : Int} (hz : s.regs.getD a 0 ≠ 0) (hd : d < 16) (ha : a < 16) (hp0 : 0 ≤ s.pc) (hp1 : s.pc ≤ 1048576) (i0 : -8388608 ≤ i) (i1 : i ≤ 8388607) :
    Calls Try.prog 42 #[PM g, insV 40 d a b i] w (GoesP (s.goes 40 a i) w) := by
  have ca := m.out.c_rg a ha
  have cd := m.out.c_rg d hd
  have c23 : w.cell? ⟨g, 23, none⟩ = some (.int .i64 s.pc) := (m.out.c_tl 0).trans rfl
  have hg := blk_lt m.out.blk
  have q1 : (a : Int) < 16 := by omega
  have q2 : (d : Int) < 16 := by omega
  have r1 := add1 g 7 a
  have r2 := add1 g 7 d
  obtain ⟨xa0, xa1⟩ := m.out.ok.r0 a
  obtain ⟨xd0, xd1⟩ := m.out.ok.r0 d
  generalize hra : s.regs.getD a 0 = ra at *
  generalize hrd : s.regs.getD d 0 = rd at *
  generalize hpc : s.pc = pc at *
  replace hra := Aside0.mk hra
  replace hrd := Aside0.mk hrd
  replace hpc := Aside0.mk hpc
  have hr : Aside0 ((w.alloc (.cells #[.int .i64 40, .int .i64 (d : Int), .int .i64 (a : Int), .int .i64 (b : Int), .int .i32 i] 67)).heap[w.heap.size]? = some (.cells #[.int .i64 40, .int .i64 (d : Int), .int .i64 (a : Int), .int .i64 (b : Int), .int .i32 i] 67 (0, 0))) := ⟨blk_new w _⟩
  have hb : Aside0 (Below w.heap.size w (w.alloc (.cells #[.int .i64 40, .int .i64 (d : Int), .int .i64 (a : Int), .int .i64 (b : Int), .int .i32 i] 67))) := ⟨below_alloc (Below.refl _ _) _⟩
  have z1 : (ra == 0) = false := by simpa using hz
  have z2 : (ra != 0) = true := by simpa using hz
  replace hz := Aside0.mk hz
  go_enter Try.func42, Try.ntmps42
  go_upto_region 1 with (fail)
  have hgp : g ≠ w.heap.size := Nat.ne_of_lt hg
  have hpg : w.heap.size ≠ g := Ne.symm hgp
  generalize w.alloc (.cells #[.int .i64 40, .int .i64 (d : Int), .int .i64 (a : Int), .int .i64 (b : Int), .int .i32 i] 67) = W at *
  have mW : Aside0 (RW W base g gm h v s) := ⟨m.out.below hb.out⟩
  have fW : Aside0 (Fr (SR g h v) w W) := ⟨Fr.of_below hb.out _⟩
  have da := (Below.cell hb.out (p := ⟨g, 7 + a, none⟩) hg).trans ca
  have dd := (Below.cell hb.out (p := ⟨g, 7 + d, none⟩) hg).trans cd
  have d23 := (Below.cell hb.out (p := ⟨g, 23, none⟩) hg).trans c23
  have y0 := (blk_cell hr.out 0).trans (show _ = some (.int .i64 40) from rfl)
  have y1 := (blk_cell hr.out 1).trans (show _ = some (.int .i64 (d : Int)) from rfl)
  have y2 := (blk_cell hr.out 2).trans (show _ = some (.int .i64 (a : Int)) from rfl)
  have y4 := (blk_cell hr.out 4).trans (show _ = some (.int .i32 i) from rfl)
  clear ca cd c23
  go_upto_region 8 with (fail)
  go_quiet (fail)
  go_wp2_with fail
  go_ret
  exact ⟨by rw [show s.goes 40 a i = pc + 4 + 4 * i from by (show (if s.regs.getD a 0 = 0 then _ else _) = _); rw [hra.out, if_neg hz.out, hpc.out]]; rfl, (hb.out).trans ((bdn0 _ _).mono hb.out.size)⟩

set_option maxHeartbeats 8000000 in
set_option maxRecDepth 100000 in
theorem goes_41 {w : World} {base g gm h : Nat} {v : Value} {s : Mc} (m : Aside0 (RW w base g gm h v s)) {d a b : Nat} {i : Int} (hd : d < 16) (ha : a < 16) (hp0 : 0 ≤ s.pc) (hp1 : s.pc ≤ 1048576) (i0 : -8388608 ≤ i) (i1 : i ≤ 8388607) :
    Calls Try.prog 42 #[PM g, insV 41 d a b i] w (GoesP (s.goes 41 a i) w) := by
  have ca := m.out.c_rg a ha
  have cd := m.out.c_rg d hd
  have c23 : w.cell? ⟨g, 23, none⟩ = some (.int .i64 s.pc) := (m.out.c_tl 0).trans rfl
  have hg := blk_lt m.out.blk
  have q1 : (a : Int) < 16 := by omega
  have q2 : (d : Int) < 16 := by omega
  have r1 := add1 g 7 a
  have r2 := add1 g 7 d
  obtain ⟨xa0, xa1⟩ := m.out.ok.r0 a
  obtain ⟨xd0, xd1⟩ := m.out.ok.r0 d
  generalize hra : s.regs.getD a 0 = ra at *
  generalize hrd : s.regs.getD d 0 = rd at *
  generalize hpc : s.pc = pc at *
  replace hra := Aside0.mk hra
  replace hrd := Aside0.mk hrd
  replace hpc := Aside0.mk hpc
  have hr : Aside0 ((w.alloc (.cells #[.int .i64 41, .int .i64 (d : Int), .int .i64 (a : Int), .int .i64 (b : Int), .int .i32 i] 67)).heap[w.heap.size]? = some (.cells #[.int .i64 41, .int .i64 (d : Int), .int .i64 (a : Int), .int .i64 (b : Int), .int .i32 i] 67 (0, 0))) := ⟨blk_new w _⟩
  have hb : Aside0 (Below w.heap.size w (w.alloc (.cells #[.int .i64 41, .int .i64 (d : Int), .int .i64 (a : Int), .int .i64 (b : Int), .int .i32 i] 67))) := ⟨below_alloc (Below.refl _ _) _⟩
  go_enter Try.func42, Try.ntmps42
  go_upto_region 1 with (fail)
  have hgp : g ≠ w.heap.size := Nat.ne_of_lt hg
  have hpg : w.heap.size ≠ g := Ne.symm hgp
  generalize w.alloc (.cells #[.int .i64 41, .int .i64 (d : Int), .int .i64 (a : Int), .int .i64 (b : Int), .int .i32 i] 67) = W at *
  have mW : Aside0 (RW W base g gm h v s) := ⟨m.out.below hb.out⟩
  have fW : Aside0 (Fr (SR g h v) w W) := ⟨Fr.of_below hb.out _⟩
  have da := (Below.cell hb.out (p := ⟨g, 7 + a, none⟩) hg).trans ca
  have dd := (Below.cell hb.out (p := ⟨g, 7 + d, none⟩) hg).trans cd
  have d23 := (Below.cell hb.out (p := ⟨g, 23, none⟩) hg).trans c23
  have y0 := (blk_cell hr.out 0).trans (show _ = some (.int .i64 41) from rfl)
  have y1 := (blk_cell hr.out 1).trans (show _ = some (.int .i64 (d : Int)) from rfl)
  have y2 := (blk_cell hr.out 2).trans (show _ = some (.int .i64 (a : Int)) from rfl)
  have y4 := (blk_cell hr.out 4).trans (show _ = some (.int .i32 i) from rfl)
  clear ca cd c23
  go_wp2_with fail
  go_ret
  exact ⟨by rw [show s.goes 41 a i = pc + 4 + 4 * i from by rw [← hpc.out]; rfl]; rfl, hb.out⟩

set_option maxHeartbeats 8000000 in
set_option maxRecDepth 100000 in
theorem goes_42 {w : World} {base g gm h : Nat} {v : Value} {s : Mc} (m : Aside0 (RW w base g gm h v s)) {d a b : Nat} {i : Int} (hd : d < 16) (ha : a < 16) (hp0 : 0 ≤ s.pc) (hp1 : s.pc ≤ 1048576) (i0 : -8388608 ≤ i) (i1 : i ≤ 8388607) :
    Calls Try.prog 42 #[PM g, insV 42 d a b i] w (GoesP (s.goes 42 a i) w) := by
  have ca := m.out.c_rg a ha
  have cd := m.out.c_rg d hd
  have c23 : w.cell? ⟨g, 23, none⟩ = some (.int .i64 s.pc) := (m.out.c_tl 0).trans rfl
  have hg := blk_lt m.out.blk
  have q1 : (a : Int) < 16 := by omega
  have q2 : (d : Int) < 16 := by omega
  have r1 := add1 g 7 a
  have r2 := add1 g 7 d
  obtain ⟨xa0, xa1⟩ := m.out.ok.r0 a
  obtain ⟨xd0, xd1⟩ := m.out.ok.r0 d
  generalize hra : s.regs.getD a 0 = ra at *
  generalize hrd : s.regs.getD d 0 = rd at *
  generalize hpc : s.pc = pc at *
  replace hra := Aside0.mk hra
  replace hrd := Aside0.mk hrd
  replace hpc := Aside0.mk hpc
  have hr : Aside0 ((w.alloc (.cells #[.int .i64 42, .int .i64 (d : Int), .int .i64 (a : Int), .int .i64 (b : Int), .int .i32 i] 67)).heap[w.heap.size]? = some (.cells #[.int .i64 42, .int .i64 (d : Int), .int .i64 (a : Int), .int .i64 (b : Int), .int .i32 i] 67 (0, 0))) := ⟨blk_new w _⟩
  have hb : Aside0 (Below w.heap.size w (w.alloc (.cells #[.int .i64 42, .int .i64 (d : Int), .int .i64 (a : Int), .int .i64 (b : Int), .int .i32 i] 67))) := ⟨below_alloc (Below.refl _ _) _⟩
  go_enter Try.func42, Try.ntmps42
  go_upto_region 1 with (fail)
  have hgp : g ≠ w.heap.size := Nat.ne_of_lt hg
  have hpg : w.heap.size ≠ g := Ne.symm hgp
  generalize w.alloc (.cells #[.int .i64 42, .int .i64 (d : Int), .int .i64 (a : Int), .int .i64 (b : Int), .int .i32 i] 67) = W at *
  have mW : Aside0 (RW W base g gm h v s) := ⟨m.out.below hb.out⟩
  have fW : Aside0 (Fr (SR g h v) w W) := ⟨Fr.of_below hb.out _⟩
  have da := (Below.cell hb.out (p := ⟨g, 7 + a, none⟩) hg).trans ca
  have dd := (Below.cell hb.out (p := ⟨g, 7 + d, none⟩) hg).trans cd
  have d23 := (Below.cell hb.out (p := ⟨g, 23, none⟩) hg).trans c23
  have y0 := (blk_cell hr.out 0).trans (show _ = some (.int .i64 42) from rfl)
  have y1 := (blk_cell hr.out 1).trans (show _ = some (.int .i64 (d : Int)) from rfl)
  have y2 := (blk_cell hr.out 2).trans (show _ = some (.int .i64 (a : Int)) from rfl)
  have y4 := (blk_cell hr.out 4).trans (show _ = some (.int .i32 i) from rfl)
  clear ca cd c23
  go_wp2_with fail
  go_ret
  exact ⟨by rw [show s.goes 42 a i = pc + 4 + 4 * i from by rw [← hpc.out]; rfl]; rfl, hb.out⟩

set_option maxHeartbeats 8000000 in
set_option maxRecDepth 100000 in
theorem goes_43 {w : World} {base g gm h : Nat} {v : Value} {s : Mc} (m : Aside0 (RW w base g gm h v s)) {d a b : Nat} {i : Int} (hd : d < 16) (ha : a < 16) (hp0 : 0 ≤ s.pc) (hp1 : s.pc ≤ 1048576) (i0 : -8388608 ≤ i) (i1 : i ≤ 8388607) :
    Calls Try.prog 42 #[PM g, insV 43 d a b i] w (GoesP (s.goes 43 a i) w) := by
  have ca := m.out.c_rg a ha
  have cd := m.out.c_rg d hd
  have c23 : w.cell? ⟨g, 23, none⟩ = some (.int .i64 s.pc) := (m.out.c_tl 0).trans rfl
  have hg := blk_lt m.out.blk
  have q1 : (a : Int) < 16 := by omega
  have q2 : (d : Int) < 16 := by omega
  have r1 := add1 g 7 a
  have r2 := add1 g 7 d
  obtain ⟨xa0, xa1⟩ := m.out.ok.r0 a
  obtain ⟨xd0, xd1⟩ := m.out.ok.r0 d
  generalize hra : s.regs.getD a 0 = ra at *
  generalize hrd : s.regs.getD d 0 = rd at *
  generalize hpc : s.pc = pc at *
  replace hra := Aside0.mk hra
  replace hrd := Aside0.mk hrd
  replace hpc := Aside0.mk hpc
  have hr : Aside0 ((w.alloc (.cells #[.int .i64 43, .int .i64 (d : Int), .int .i64 (a : Int), .int .i64 (b : Int), .int .i32 i] 67)).heap[w.heap.size]? = some (.cells #[.int .i64 43, .int .i64 (d : Int), .int .i64 (a : Int), .int .i64 (b : Int), .int .i32 i] 67 (0, 0))) := ⟨blk_new w _⟩
  have hb : Aside0 (Below w.heap.size w (w.alloc (.cells #[.int .i64 43, .int .i64 (d : Int), .int .i64 (a : Int), .int .i64 (b : Int), .int .i32 i] 67))) := ⟨below_alloc (Below.refl _ _) _⟩
  go_enter Try.func42, Try.ntmps42
  go_upto_region 1 with (fail)
  have hgp : g ≠ w.heap.size := Nat.ne_of_lt hg
  have hpg : w.heap.size ≠ g := Ne.symm hgp
  generalize w.alloc (.cells #[.int .i64 43, .int .i64 (d : Int), .int .i64 (a : Int), .int .i64 (b : Int), .int .i32 i] 67) = W at *
  have mW : Aside0 (RW W base g gm h v s) := ⟨m.out.below hb.out⟩
  have fW : Aside0 (Fr (SR g h v) w W) := ⟨Fr.of_below hb.out _⟩
  have da := (Below.cell hb.out (p := ⟨g, 7 + a, none⟩) hg).trans ca
  have dd := (Below.cell hb.out (p := ⟨g, 7 + d, none⟩) hg).trans cd
  have d23 := (Below.cell hb.out (p := ⟨g, 23, none⟩) hg).trans c23
  have y0 := (blk_cell hr.out 0).trans (show _ = some (.int .i64 43) from rfl)
  have y1 := (blk_cell hr.out 1).trans (show _ = some (.int .i64 (d : Int)) from rfl)
  have y2 := (blk_cell hr.out 2).trans (show _ = some (.int .i64 (a : Int)) from rfl)
  have y4 := (blk_cell hr.out 4).trans (show _ = some (.int .i32 i) from rfl)
  clear ca cd c23
  go_upto_region 14 with (fail)
  go_quiet (fail)
  go_wp2_with fail
  go_ret
  exact ⟨by rw [show s.goes 43 a i = ra from by rw [← hra.out]; rfl]; rfl, (hb.out).trans ((bdn0 _ _).mono hb.out.size)⟩

set_option maxHeartbeats 8000000 in
set_option maxRecDepth 100000 in
theorem goes_no {w : World} {base g gm h : Nat} {v : Value} {s : Mc} (m : Aside0 (RW w base g gm h v s)) {d a b : Nat} {i : Int} {op : Int} (ho : op < 39 ∨ 43 < op) (hd : d < 16) (ha : a < 16) (hp0 : 0 ≤ s.pc) (hp1 : s.pc ≤ 1048576) (i0 : -8388608 ≤ i) (i1 : i ≤ 8388607) :
    Calls Try.prog 42 #[PM g, insV op d a b i] w (GoesP (s.goes op a i) w) := by
  have ca := m.out.c_rg a ha
  have cd := m.out.c_rg d hd
  have c23 : w.cell? ⟨g, 23, none⟩ = some (.int .i64 s.pc) := (m.out.c_tl 0).trans rfl
  have hg := blk_lt m.out.blk
  have q1 : (a : Int) < 16 := by omega
  have q2 : (d : Int) < 16 := by omega
  have r1 := add1 g 7 a
  have r2 := add1 g 7 d
  obtain ⟨xa0, xa1⟩ := m.out.ok.r0 a
  obtain ⟨xd0, xd1⟩ := m.out.ok.r0 d
  have n39 : (op == 39) = false := by rw [beq_eq_false_iff_ne]; omega
  have n40 : (op == 40) = false := by rw [beq_eq_false_iff_ne]; omega
  have n41 : (op == 41) = false := by rw [beq_eq_false_iff_ne]; omega
  have n42 : (op == 42) = false := by rw [beq_eq_false_iff_ne]; omega
  have n43 : (op == 43) = false := by rw [beq_eq_false_iff_ne]; omega
  have hgo : Aside0 (s.goes op a i = s.pc + 4) := ⟨by unfold Mc.goes; rw [if_neg (by omega), if_neg (by omega), if_neg (by omega), if_neg (by omega)]⟩
  generalize hra : s.regs.getD a 0 = ra at *
  generalize hrd : s.regs.getD d 0 = rd at *
  generalize hpc : s.pc = pc at *
  replace hra := Aside0.mk hra
  replace hrd := Aside0.mk hrd
  replace hpc := Aside0.mk hpc
  have hr : Aside0 ((w.alloc (.cells #[.int .i64 op, .int .i64 (d : Int), .int .i64 (a : Int), .int .i64 (b : Int), .int .i32 i] 67)).heap[w.heap.size]? = some (.cells #[.int .i64 op, .int .i64 (d : Int), .int .i64 (a : Int), .int .i64 (b : Int), .int .i32 i] 67 (0, 0))) := ⟨blk_new w _⟩
  have hb : Aside0 (Below w.heap.size w (w.alloc (.cells #[.int .i64 op, .int .i64 (d : Int), .int .i64 (a : Int), .int .i64 (b : Int), .int .i32 i] 67))) := ⟨below_alloc (Below.refl _ _) _⟩
  go_enter Try.func42, Try.ntmps42
  go_upto_region 1 with (fail)
  have hgp : g ≠ w.heap.size := Nat.ne_of_lt hg
  have hpg : w.heap.size ≠ g := Ne.symm hgp
  generalize w.alloc (.cells #[.int .i64 op, .int .i64 (d : Int), .int .i64 (a : Int), .int .i64 (b : Int), .int .i32 i] 67) = W at *
  have mW : Aside0 (RW W base g gm h v s) := ⟨m.out.below hb.out⟩
  have fW : Aside0 (Fr (SR g h v) w W) := ⟨Fr.of_below hb.out _⟩
  have da := (Below.cell hb.out (p := ⟨g, 7 + a, none⟩) hg).trans ca
  have dd := (Below.cell hb.out (p := ⟨g, 7 + d, none⟩) hg).trans cd
  have d23 := (Below.cell hb.out (p := ⟨g, 23, none⟩) hg).trans c23
  have y0 := (blk_cell hr.out 0).trans (show _ = some (.int .i64 op) from rfl)
  have y1 := (blk_cell hr.out 1).trans (show _ = some (.int .i64 (d : Int)) from rfl)
  have y2 := (blk_cell hr.out 2).trans (show _ = some (.int .i64 (a : Int)) from rfl)
  have y4 := (blk_cell hr.out 4).trans (show _ = some (.int .i32 i) from rfl)
  clear ca cd c23
  go_wp2_with fail
  go_ret
  exact ⟨by rw [hgo.out]; rfl, hb.out⟩

theorem goesC {w : World} {base g gm h : Nat} {v : Value} {s : Mc} (m : Aside0 (RW w base g gm h v s)) {d a b : Nat} {i op : Int} (hd : d < 16) (ha : a < 16) (hp0 : 0 ≤ s.pc) (hp1 : s.pc ≤ 1048576) (i0 : -8388608 ≤ i) (i1 : i ≤ 8388607) :
    Calls Try.prog 42 #[PM g, insV op d a b i] w (GoesP (s.goes op a i) w) := by
  by_cases h39 : op = 39
  · subst h39
    by_cases hz : s.regs.getD a 0 = 0
    · exact goes_39z m hz hd ha hp0 hp1 i0 i1
    · exact goes_39n m hz hd ha hp0 hp1 i0 i1
  by_cases h40 : op = 40
  · subst h40
    by_cases hz : s.regs.getD a 0 = 0
    · exact goes_40z m hz hd ha hp0 hp1 i0 i1
    · exact goes_40n m hz hd ha hp0 hp1 i0 i1
  by_cases h41 : op = 41
  · subst h41; exact goes_41 m hd ha hp0 hp1 i0 i1
  by_cases h42 : op = 42
  · subst h42; exact goes_42 m hd ha hp0 hp1 i0 i1
  by_cases h43 : op = 43
  · subst h43; exact goes_43 m hd ha hp0 hp1 i0 i1
  exact goes_no m (by omega) hd ha hp0 hp1 i0 i1

end Go.Proofs.Ytbhkfdjofopfkaa.MemA
