/- The machine's Step: places (printed by mkI.py of session 4). -/
import Derived.Test.YtbhkfdjofopfkaaMaH
namespace Go.Proofs.Ytbhkfdjofopfkaa.MemA
open Go.RowKit Go.Proofs.YtbhkfdjofopfkaaW.PrintWords Go.Proofs.YtbhkfdjofopfkaaW.PrintLast
set_option linter.unusedVariables false
set_option linter.unusedSimpArgs false

theorem set14 {w : World} {base g gm h : Nat} {v : Value} {s : Mc} (m : Aside0 (MW w base g gm h v s)) (x : Int) (x0 : 0 ≤ x) (x1 : x ≤ 4294967295) :
    Calls Try.prog 34 #[PM g, .int .i64 14, .int .u32 x] w (RetM g base gm h v (.tuple #[]) (s.setR 14 x) w) := set m 14 (by omega) x x0 x1

set_option maxHeartbeats 8000000 in
set_option maxRecDepth 100000 in
theorem st_39 {w : World} {base g gm h : Nat} {v : Value} {s : Mc} (m : Aside0 (MW w base g gm h v s)) {d a b : Nat} {i : Int} (he : s.ended = false) (hx : s.fet = some ⟨39, d, a, b, i⟩) (hk : (⟨39, d, a, b, i⟩ : In).Ok) (hol : s.out.length < 1099511627776) :
    Calls Try.prog 15 #[PM g] w (StepP g base gm h v true (s.exec ⟨39, d, a, b, i⟩) w) := by
  have his := Aside0.mk (is_ m)
  have hfe := Aside0.mk (fetch_some m hx)
  obtain ⟨o1, o2⟩ := Mc.fet_on hx
  obtain ⟨p0, p1, p2, p3⟩ := off_out o1 m.out.ok.c4
  have hcl := m.out.ok.cl
  have hp1 : s.pc ≤ 1048576 := by omega
  clear o1 o2 p1 p2 p3 hcl hx
  have hd : d < 16 := hk.d
  have ha : a < 16 := hk.a
  have hbb : b < 16 := hk.b
  obtain ⟨i0, i1⟩ : -8388608 ≤ i ∧ i ≤ 8388607 := hk.i
  have c26 : w.cell? ⟨g, 26, none⟩ = some (.bool false) := (m.out.c_tl 4).trans (by show some (Value.bool s.ended) = _; rw [he])
  have ca := m.out.c_rg a ha
  have cd := m.out.c_rg d hd
  have cb := m.out.c_rg b hbb
  have c22 : w.cell? ⟨g, 22, none⟩ = some (.int .i64 s.pc) := (m.out.c_tl 0).trans rfl
  have hg := blk_lt m.out.blk
  have q1 : (a : Int) < 16 := by omega
  have q2 : (d : Int) < 16 := by omega
  have q3 : (b : Int) < 16 := by omega
  have r1 := add1 g 6 a
  have r2 := add1 g 6 d
  have r3 := add1 g 6 b
  obtain ⟨xa0, xa1⟩ := m.out.ok.r0 a
  obtain ⟨xd0, xd1⟩ := m.out.ok.r0 d
  obtain ⟨xb0, xb1⟩ := m.out.ok.r0 b
  clear he hk
  generalize hra : s.regs.getD a 0 = ra at *
  generalize hrd : s.regs.getD d 0 = rd at *
  generalize hrb : s.regs.getD b 0 = rb at *
  generalize hpc : s.pc = pc at *
  replace hra := Aside0.mk hra
  replace hrd := Aside0.mk hrd
  replace hrb := Aside0.mk hrb
  replace hpc := Aside0.mk hpc
  go_enter Try.func15, Try.ntmps15
  go_upto_region 7 with (first | (go_at_call 31; (with_reducible refine his.out.mono ?_); rintro e w' ⟨rfl, rfl⟩) | (go_at_call 32; (with_reducible refine hfe.out.mono ?_); rintro e w1 ⟨rfl, hb1⟩; replace hb1 := Aside0.mk hb1))
  have hr : Aside0 ((w1.alloc (.cells #[.int .i64 39, .int .i64 (d : Int), .int .i64 (a : Int), .int .i64 (b : Int), .int .i32 i] 67)).heap[w1.heap.size]? = some (.cells #[.int .i64 39, .int .i64 (d : Int), .int .i64 (a : Int), .int .i64 (b : Int), .int .i32 i] 67 (0, 0))) := ⟨blk_new w1 _⟩
  have hb : Aside0 (Below w.heap.size w (w1.alloc (.cells #[.int .i64 39, .int .i64 (d : Int), .int .i64 (a : Int), .int .i64 (b : Int), .int .i32 i] 67))) := ⟨below_alloc hb1.out _⟩
  have hwp : w.heap.size ≤ w1.heap.size := hb1.out.size
  have hgp : g ≠ w1.heap.size := by omega
  generalize w1.alloc (.cells #[.int .i64 39, .int .i64 (d : Int), .int .i64 (a : Int), .int .i64 (b : Int), .int .i32 i] 67) = W at *
  generalize w1.heap.size = pb at *
  clear hb1
  have d22 := (Below.cell hb.out (p := ⟨g, 22, none⟩) hg).trans c22
  have da := (Below.cell hb.out (p := ⟨g, 6 + a, none⟩) hg).trans ca
  have y2 := (blk_cell hr.out 2).trans (show _ = some (.int .i64 (a : Int)) from rfl)
  go_upto_region 8 with (fail)
  go_quiet (fail)
  have mW : Aside0 (MW (W.drewN nq) base g gm h v s) := ⟨(m.out.below hb.out).below (bdn0 _ _)⟩
  have fW : Aside0 (Fr (S3 g h v) w (W.drewN nq)) := ⟨(Fr.of_below hb.out _).trans (Fr.of_below (bdn0 _ _) _)⟩
  have hrW : Aside0 ((W.drewN nq).heap[pb]? = some (.cells #[.int .i64 39, .int .i64 (d : Int), .int .i64 (a : Int), .int .i64 (b : Int), .int .i32 i] 67 (0, 0))) := ⟨blk_drewN hr.out _⟩
  have hsW : w.heap.size ≤ (W.drewN nq).heap.size := fW.out.kept.1
  generalize W.drewN nq = W2 at *
  clear hb d22 da y2 hr c22 ca cd cb
  have e22 : W2.cell? ⟨g, 22, none⟩ = some (.int .i64 pc) := (mW.out.c_tl 0).trans (by show some (Value.int .i64 s.pc) = _; rw [hpc.out])
  have f22 := mW.out.fz 22
  have y0 := (blk_cell hrW.out 0).trans (show _ = some (.int .i64 39) from rfl)
  have y1 := (blk_cell hrW.out 1).trans (show _ = some (.int .i64 (d : Int)) from rfl)
  have y2 := (blk_cell hrW.out 2).trans (show _ = some (.int .i64 (a : Int)) from rfl)
  have y3 := (blk_cell hrW.out 3).trans (show _ = some (.int .i64 (b : Int)) from rfl)
  have y4 := (blk_cell hrW.out 4).trans (show _ = some (.int .i32 i) from rfl)
  by_cases hz : ra = 0
  · have hz1 : (ra == 0) = true := by rw [hz]; rfl
    have hz2 := Aside0.mk hz
    clear hz
    go_wp2_with fail
    go_ret
    exact ⟨rfl, v, by rw [show s.exec _ = s.jump (pc + 4 + 4 * i) from by show s.jump (if s.regs.getD a 0 = 0 then _ else _) = _; rw [hra.out, if_pos hz2.out, hpc.out]]; exact mW.out.jump _ (by omega), .inl rfl, fW.out.setCell (p := ⟨g, 22, none⟩) (.inl rfl) _⟩

  · have hz1 : (ra == 0) = false := by rw [beq_eq_false_iff_ne]; exact hz
    have hz2 := Aside0.mk hz
    clear hz
    go_wp2_with fail
    go_ret
    exact ⟨rfl, v, by rw [show s.exec _ = s.jump (pc + 4) from by show s.jump (if s.regs.getD a 0 = 0 then _ else _) = _; rw [hra.out, if_neg hz2.out, hpc.out]]; exact mW.out.jump _ (by omega), .inl rfl, fW.out.setCell (p := ⟨g, 22, none⟩) (.inl rfl) _⟩


set_option maxHeartbeats 8000000 in
set_option maxRecDepth 100000 in
theorem st_40 {w : World} {base g gm h : Nat} {v : Value} {s : Mc} (m : Aside0 (MW w base g gm h v s)) {d a b : Nat} {i : Int} (he : s.ended = false) (hx : s.fet = some ⟨40, d, a, b, i⟩) (hk : (⟨40, d, a, b, i⟩ : In).Ok) (hol : s.out.length < 1099511627776) :
    Calls Try.prog 15 #[PM g] w (StepP g base gm h v true (s.exec ⟨40, d, a, b, i⟩) w) := by
  have his := Aside0.mk (is_ m)
  have hfe := Aside0.mk (fetch_some m hx)
  obtain ⟨o1, o2⟩ := Mc.fet_on hx
  obtain ⟨p0, p1, p2, p3⟩ := off_out o1 m.out.ok.c4
  have hcl := m.out.ok.cl
  have hp1 : s.pc ≤ 1048576 := by omega
  clear o1 o2 p1 p2 p3 hcl hx
  have hd : d < 16 := hk.d
  have ha : a < 16 := hk.a
  have hbb : b < 16 := hk.b
  obtain ⟨i0, i1⟩ : -8388608 ≤ i ∧ i ≤ 8388607 := hk.i
  have c26 : w.cell? ⟨g, 26, none⟩ = some (.bool false) := (m.out.c_tl 4).trans (by show some (Value.bool s.ended) = _; rw [he])
  have ca := m.out.c_rg a ha
  have cd := m.out.c_rg d hd
  have cb := m.out.c_rg b hbb
  have c22 : w.cell? ⟨g, 22, none⟩ = some (.int .i64 s.pc) := (m.out.c_tl 0).trans rfl
  have hg := blk_lt m.out.blk
  have q1 : (a : Int) < 16 := by omega
  have q2 : (d : Int) < 16 := by omega
  have q3 : (b : Int) < 16 := by omega
  have r1 := add1 g 6 a
  have r2 := add1 g 6 d
  have r3 := add1 g 6 b
  obtain ⟨xa0, xa1⟩ := m.out.ok.r0 a
  obtain ⟨xd0, xd1⟩ := m.out.ok.r0 d
  obtain ⟨xb0, xb1⟩ := m.out.ok.r0 b
  clear he hk
  generalize hra : s.regs.getD a 0 = ra at *
  generalize hrd : s.regs.getD d 0 = rd at *
  generalize hrb : s.regs.getD b 0 = rb at *
  generalize hpc : s.pc = pc at *
  replace hra := Aside0.mk hra
  replace hrd := Aside0.mk hrd
  replace hrb := Aside0.mk hrb
  replace hpc := Aside0.mk hpc
  go_enter Try.func15, Try.ntmps15
  go_upto_region 7 with (first | (go_at_call 31; (with_reducible refine his.out.mono ?_); rintro e w' ⟨rfl, rfl⟩) | (go_at_call 32; (with_reducible refine hfe.out.mono ?_); rintro e w1 ⟨rfl, hb1⟩; replace hb1 := Aside0.mk hb1))
  have hr : Aside0 ((w1.alloc (.cells #[.int .i64 40, .int .i64 (d : Int), .int .i64 (a : Int), .int .i64 (b : Int), .int .i32 i] 67)).heap[w1.heap.size]? = some (.cells #[.int .i64 40, .int .i64 (d : Int), .int .i64 (a : Int), .int .i64 (b : Int), .int .i32 i] 67 (0, 0))) := ⟨blk_new w1 _⟩
  have hb : Aside0 (Below w.heap.size w (w1.alloc (.cells #[.int .i64 40, .int .i64 (d : Int), .int .i64 (a : Int), .int .i64 (b : Int), .int .i32 i] 67))) := ⟨below_alloc hb1.out _⟩
  have hwp : w.heap.size ≤ w1.heap.size := hb1.out.size
  have hgp : g ≠ w1.heap.size := by omega
  generalize w1.alloc (.cells #[.int .i64 40, .int .i64 (d : Int), .int .i64 (a : Int), .int .i64 (b : Int), .int .i32 i] 67) = W at *
  generalize w1.heap.size = pb at *
  clear hb1
  have d22 := (Below.cell hb.out (p := ⟨g, 22, none⟩) hg).trans c22
  have da := (Below.cell hb.out (p := ⟨g, 6 + a, none⟩) hg).trans ca
  have y2 := (blk_cell hr.out 2).trans (show _ = some (.int .i64 (a : Int)) from rfl)
  go_upto_region 8 with (fail)
  go_quiet (fail)
  have mW : Aside0 (MW (W.drewN nq) base g gm h v s) := ⟨(m.out.below hb.out).below (bdn0 _ _)⟩
  have fW : Aside0 (Fr (S3 g h v) w (W.drewN nq)) := ⟨(Fr.of_below hb.out _).trans (Fr.of_below (bdn0 _ _) _)⟩
  have hrW : Aside0 ((W.drewN nq).heap[pb]? = some (.cells #[.int .i64 40, .int .i64 (d : Int), .int .i64 (a : Int), .int .i64 (b : Int), .int .i32 i] 67 (0, 0))) := ⟨blk_drewN hr.out _⟩
  have hsW : w.heap.size ≤ (W.drewN nq).heap.size := fW.out.kept.1
  generalize W.drewN nq = W2 at *
  clear hb d22 da y2 hr c22 ca cd cb
  have e22 : W2.cell? ⟨g, 22, none⟩ = some (.int .i64 pc) := (mW.out.c_tl 0).trans (by show some (Value.int .i64 s.pc) = _; rw [hpc.out])
  have f22 := mW.out.fz 22
  have y0 := (blk_cell hrW.out 0).trans (show _ = some (.int .i64 40) from rfl)
  have y1 := (blk_cell hrW.out 1).trans (show _ = some (.int .i64 (d : Int)) from rfl)
  have y2 := (blk_cell hrW.out 2).trans (show _ = some (.int .i64 (a : Int)) from rfl)
  have y3 := (blk_cell hrW.out 3).trans (show _ = some (.int .i64 (b : Int)) from rfl)
  have y4 := (blk_cell hrW.out 4).trans (show _ = some (.int .i32 i) from rfl)
  by_cases hz : ra = 0
  · have hz1 : (ra == 0) = true := by rw [hz]; rfl
    have hz2 := Aside0.mk hz
    clear hz
    go_wp2_with fail
    go_ret
    exact ⟨rfl, v, by rw [show s.exec _ = s.jump (pc + 4) from by show s.jump (if s.regs.getD a 0 = 0 then _ else _) = _; rw [hra.out, if_pos hz2.out, hpc.out]]; exact mW.out.jump _ (by omega), .inl rfl, fW.out.setCell (p := ⟨g, 22, none⟩) (.inl rfl) _⟩

  · have hz1 : (ra == 0) = false := by rw [beq_eq_false_iff_ne]; exact hz
    have hz2 := Aside0.mk hz
    clear hz
    go_wp2_with fail
    go_ret
    exact ⟨rfl, v, by rw [show s.exec _ = s.jump (pc + 4 + 4 * i) from by show s.jump (if s.regs.getD a 0 = 0 then _ else _) = _; rw [hra.out, if_neg hz2.out, hpc.out]]; exact mW.out.jump _ (by omega), .inl rfl, fW.out.setCell (p := ⟨g, 22, none⟩) (.inl rfl) _⟩


set_option maxHeartbeats 8000000 in
set_option maxRecDepth 100000 in
theorem st_41 {w : World} {base g gm h : Nat} {v : Value} {s : Mc} (m : Aside0 (MW w base g gm h v s)) {d a b : Nat} {i : Int} (he : s.ended = false) (hx : s.fet = some ⟨41, d, a, b, i⟩) (hk : (⟨41, d, a, b, i⟩ : In).Ok) (hol : s.out.length < 1099511627776) :
    Calls Try.prog 15 #[PM g] w (StepP g base gm h v true (s.exec ⟨41, d, a, b, i⟩) w) := by
  have his := Aside0.mk (is_ m)
  have hfe := Aside0.mk (fetch_some m hx)
  obtain ⟨o1, o2⟩ := Mc.fet_on hx
  obtain ⟨p0, p1, p2, p3⟩ := off_out o1 m.out.ok.c4
  have hcl := m.out.ok.cl
  have hp1 : s.pc ≤ 1048576 := by omega
  clear o1 o2 p1 p2 p3 hcl hx
  have hd : d < 16 := hk.d
  have ha : a < 16 := hk.a
  have hbb : b < 16 := hk.b
  obtain ⟨i0, i1⟩ : -8388608 ≤ i ∧ i ≤ 8388607 := hk.i
  have c26 : w.cell? ⟨g, 26, none⟩ = some (.bool false) := (m.out.c_tl 4).trans (by show some (Value.bool s.ended) = _; rw [he])
  have ca := m.out.c_rg a ha
  have cd := m.out.c_rg d hd
  have cb := m.out.c_rg b hbb
  have c22 : w.cell? ⟨g, 22, none⟩ = some (.int .i64 s.pc) := (m.out.c_tl 0).trans rfl
  have hg := blk_lt m.out.blk
  have q1 : (a : Int) < 16 := by omega
  have q2 : (d : Int) < 16 := by omega
  have q3 : (b : Int) < 16 := by omega
  have r1 := add1 g 6 a
  have r2 := add1 g 6 d
  have r3 := add1 g 6 b
  obtain ⟨xa0, xa1⟩ := m.out.ok.r0 a
  obtain ⟨xd0, xd1⟩ := m.out.ok.r0 d
  obtain ⟨xb0, xb1⟩ := m.out.ok.r0 b
  clear he hk
  generalize hra : s.regs.getD a 0 = ra at *
  generalize hrd : s.regs.getD d 0 = rd at *
  generalize hrb : s.regs.getD b 0 = rb at *
  generalize hpc : s.pc = pc at *
  replace hra := Aside0.mk hra
  replace hrd := Aside0.mk hrd
  replace hrb := Aside0.mk hrb
  replace hpc := Aside0.mk hpc
  go_enter Try.func15, Try.ntmps15
  go_upto_region 7 with (first | (go_at_call 31; (with_reducible refine his.out.mono ?_); rintro e w' ⟨rfl, rfl⟩) | (go_at_call 32; (with_reducible refine hfe.out.mono ?_); rintro e w1 ⟨rfl, hb1⟩; replace hb1 := Aside0.mk hb1))
  have hr : Aside0 ((w1.alloc (.cells #[.int .i64 41, .int .i64 (d : Int), .int .i64 (a : Int), .int .i64 (b : Int), .int .i32 i] 67)).heap[w1.heap.size]? = some (.cells #[.int .i64 41, .int .i64 (d : Int), .int .i64 (a : Int), .int .i64 (b : Int), .int .i32 i] 67 (0, 0))) := ⟨blk_new w1 _⟩
  have hb : Aside0 (Below w.heap.size w (w1.alloc (.cells #[.int .i64 41, .int .i64 (d : Int), .int .i64 (a : Int), .int .i64 (b : Int), .int .i32 i] 67))) := ⟨below_alloc hb1.out _⟩
  have hwp : w.heap.size ≤ w1.heap.size := hb1.out.size
  have hgp : g ≠ w1.heap.size := by omega
  generalize w1.alloc (.cells #[.int .i64 41, .int .i64 (d : Int), .int .i64 (a : Int), .int .i64 (b : Int), .int .i32 i] 67) = W at *
  generalize w1.heap.size = pb at *
  clear hb1
  have d22 := (Below.cell hb.out (p := ⟨g, 22, none⟩) hg).trans c22
  have da := (Below.cell hb.out (p := ⟨g, 6 + a, none⟩) hg).trans ca
  have y2 := (blk_cell hr.out 2).trans (show _ = some (.int .i64 (a : Int)) from rfl)
  go_upto_region 8 with (fail)
  go_quiet (fail)
  have mW : Aside0 (MW (W.drewN nq) base g gm h v s) := ⟨(m.out.below hb.out).below (bdn0 _ _)⟩
  have fW : Aside0 (Fr (S3 g h v) w (W.drewN nq)) := ⟨(Fr.of_below hb.out _).trans (Fr.of_below (bdn0 _ _) _)⟩
  have hrW : Aside0 ((W.drewN nq).heap[pb]? = some (.cells #[.int .i64 41, .int .i64 (d : Int), .int .i64 (a : Int), .int .i64 (b : Int), .int .i32 i] 67 (0, 0))) := ⟨blk_drewN hr.out _⟩
  have hsW : w.heap.size ≤ (W.drewN nq).heap.size := fW.out.kept.1
  generalize W.drewN nq = W2 at *
  clear hb d22 da y2 hr c22 ca cd cb
  have e22 : W2.cell? ⟨g, 22, none⟩ = some (.int .i64 pc) := (mW.out.c_tl 0).trans (by show some (Value.int .i64 s.pc) = _; rw [hpc.out])
  have f22 := mW.out.fz 22
  have y0 := (blk_cell hrW.out 0).trans (show _ = some (.int .i64 41) from rfl)
  have y1 := (blk_cell hrW.out 1).trans (show _ = some (.int .i64 (d : Int)) from rfl)
  have y2 := (blk_cell hrW.out 2).trans (show _ = some (.int .i64 (a : Int)) from rfl)
  have y3 := (blk_cell hrW.out 3).trans (show _ = some (.int .i64 (b : Int)) from rfl)
  have y4 := (blk_cell hrW.out 4).trans (show _ = some (.int .i32 i) from rfl)
  go_wp2_with fail
  go_ret
  exact ⟨rfl, v, by rw [show s.exec _ = s.jump (pc + 4 + 4 * i) from by rw [← hpc.out]; rfl]; exact mW.out.jump _ (by omega), .inl rfl, fW.out.setCell (p := ⟨g, 22, none⟩) (.inl rfl) _⟩

set_option maxHeartbeats 8000000 in
set_option maxRecDepth 100000 in
theorem st_42 {w : World} {base g gm h : Nat} {v : Value} {s : Mc} (m : Aside0 (MW w base g gm h v s)) {d a b : Nat} {i : Int} (he : s.ended = false) (hx : s.fet = some ⟨42, d, a, b, i⟩) (hk : (⟨42, d, a, b, i⟩ : In).Ok) (hol : s.out.length < 1099511627776) :
    Calls Try.prog 15 #[PM g] w (StepP g base gm h v true (s.exec ⟨42, d, a, b, i⟩) w) := by
  have his := Aside0.mk (is_ m)
  have hfe := Aside0.mk (fetch_some m hx)
  obtain ⟨o1, o2⟩ := Mc.fet_on hx
  obtain ⟨p0, p1, p2, p3⟩ := off_out o1 m.out.ok.c4
  have hcl := m.out.ok.cl
  have hp1 : s.pc ≤ 1048576 := by omega
  clear o1 o2 p1 p2 p3 hcl hx
  have hd : d < 16 := hk.d
  have ha : a < 16 := hk.a
  have hbb : b < 16 := hk.b
  obtain ⟨i0, i1⟩ : -8388608 ≤ i ∧ i ≤ 8388607 := hk.i
  have c26 : w.cell? ⟨g, 26, none⟩ = some (.bool false) := (m.out.c_tl 4).trans (by show some (Value.bool s.ended) = _; rw [he])
  have ca := m.out.c_rg a ha
  have cd := m.out.c_rg d hd
  have cb := m.out.c_rg b hbb
  have c22 : w.cell? ⟨g, 22, none⟩ = some (.int .i64 s.pc) := (m.out.c_tl 0).trans rfl
  have hg := blk_lt m.out.blk
  have q1 : (a : Int) < 16 := by omega
  have q2 : (d : Int) < 16 := by omega
  have q3 : (b : Int) < 16 := by omega
  have r1 := add1 g 6 a
  have r2 := add1 g 6 d
  have r3 := add1 g 6 b
  obtain ⟨xa0, xa1⟩ := m.out.ok.r0 a
  obtain ⟨xd0, xd1⟩ := m.out.ok.r0 d
  obtain ⟨xb0, xb1⟩ := m.out.ok.r0 b
  clear he hk
  generalize hra : s.regs.getD a 0 = ra at *
  generalize hrd : s.regs.getD d 0 = rd at *
  generalize hrb : s.regs.getD b 0 = rb at *
  generalize hpc : s.pc = pc at *
  replace hra := Aside0.mk hra
  replace hrd := Aside0.mk hrd
  replace hrb := Aside0.mk hrb
  replace hpc := Aside0.mk hpc
  go_enter Try.func15, Try.ntmps15
  go_upto_region 7 with (first | (go_at_call 31; (with_reducible refine his.out.mono ?_); rintro e w' ⟨rfl, rfl⟩) | (go_at_call 32; (with_reducible refine hfe.out.mono ?_); rintro e w1 ⟨rfl, hb1⟩; replace hb1 := Aside0.mk hb1))
  have hr : Aside0 ((w1.alloc (.cells #[.int .i64 42, .int .i64 (d : Int), .int .i64 (a : Int), .int .i64 (b : Int), .int .i32 i] 67)).heap[w1.heap.size]? = some (.cells #[.int .i64 42, .int .i64 (d : Int), .int .i64 (a : Int), .int .i64 (b : Int), .int .i32 i] 67 (0, 0))) := ⟨blk_new w1 _⟩
  have hb : Aside0 (Below w.heap.size w (w1.alloc (.cells #[.int .i64 42, .int .i64 (d : Int), .int .i64 (a : Int), .int .i64 (b : Int), .int .i32 i] 67))) := ⟨below_alloc hb1.out _⟩
  have hwp : w.heap.size ≤ w1.heap.size := hb1.out.size
  have hgp : g ≠ w1.heap.size := by omega
  generalize w1.alloc (.cells #[.int .i64 42, .int .i64 (d : Int), .int .i64 (a : Int), .int .i64 (b : Int), .int .i32 i] 67) = W at *
  generalize w1.heap.size = pb at *
  clear hb1
  have d22 := (Below.cell hb.out (p := ⟨g, 22, none⟩) hg).trans c22
  have da := (Below.cell hb.out (p := ⟨g, 6 + a, none⟩) hg).trans ca
  have y2 := (blk_cell hr.out 2).trans (show _ = some (.int .i64 (a : Int)) from rfl)
  go_upto_region 8 with (fail)
  go_quiet (fail)
  have mW : Aside0 (MW (W.drewN nq) base g gm h v s) := ⟨(m.out.below hb.out).below (bdn0 _ _)⟩
  have fW : Aside0 (Fr (S3 g h v) w (W.drewN nq)) := ⟨(Fr.of_below hb.out _).trans (Fr.of_below (bdn0 _ _) _)⟩
  have hrW : Aside0 ((W.drewN nq).heap[pb]? = some (.cells #[.int .i64 42, .int .i64 (d : Int), .int .i64 (a : Int), .int .i64 (b : Int), .int .i32 i] 67 (0, 0))) := ⟨blk_drewN hr.out _⟩
  have hsW : w.heap.size ≤ (W.drewN nq).heap.size := fW.out.kept.1
  generalize W.drewN nq = W2 at *
  clear hb d22 da y2 hr c22 ca cd cb
  have e22 : W2.cell? ⟨g, 22, none⟩ = some (.int .i64 pc) := (mW.out.c_tl 0).trans (by show some (Value.int .i64 s.pc) = _; rw [hpc.out])
  have f22 := mW.out.fz 22
  have y0 := (blk_cell hrW.out 0).trans (show _ = some (.int .i64 42) from rfl)
  have y1 := (blk_cell hrW.out 1).trans (show _ = some (.int .i64 (d : Int)) from rfl)
  have y2 := (blk_cell hrW.out 2).trans (show _ = some (.int .i64 (a : Int)) from rfl)
  have y3 := (blk_cell hrW.out 3).trans (show _ = some (.int .i64 (b : Int)) from rfl)
  have y4 := (blk_cell hrW.out 4).trans (show _ = some (.int .i32 i) from rfl)
  have PCR : (s.setR 14 (pc + 4)).pc = pc := by unfold Mc.setR; split <;> exact hpc.out
  replace PCR := Aside0.mk PCR
  go_wp2_with (go_at_call 34; refine (set14 mW _ (by omega) (by omega)).mono ?_; rintro e w3 ⟨rfl, m3, o3⟩; have y4b : w3.cell? ⟨pb, 4, none⟩ = some (.int .i32 i) := (World.cell?_of_block (w := W2) (o3.block pb (blk_lt hrW.out) (Ne.symm hgp))).trans y4; have k22 : w3.cell? ⟨g, 22, none⟩ = some (.int .i64 pc) := (m3.c_tl 0).trans (by show some (Value.int .i64 (Mc.pc _)) = _; exact congrArg some (congrArg (Value.int .i64) PCR.out)); have z22 := m3.fz 22; replace m3 := Aside0.mk m3; replace o3 := Aside0.mk o3)
  go_ret
  exact ⟨rfl, v, by rw [show s.exec _ = (s.setR 14 (pc + 4)).jump (pc + 4 + 4 * i) from by rw [← hpc.out]; rfl]; exact m3.out.jump _ (by omega), .inl rfl, (fW.out.trans ((Fr.of_only o3.out).mono S3.g)).setCell (p := ⟨g, 22, none⟩) (.inl rfl) _⟩

set_option maxHeartbeats 8000000 in
set_option maxRecDepth 100000 in
theorem st_43 {w : World} {base g gm h : Nat} {v : Value} {s : Mc} (m : Aside0 (MW w base g gm h v s)) {d a b : Nat} {i : Int} (he : s.ended = false) (hx : s.fet = some ⟨43, d, a, b, i⟩) (hk : (⟨43, d, a, b, i⟩ : In).Ok) (hol : s.out.length < 1099511627776) :
    Calls Try.prog 15 #[PM g] w (StepP g base gm h v true (s.exec ⟨43, d, a, b, i⟩) w) := by
  have his := Aside0.mk (is_ m)
  have hfe := Aside0.mk (fetch_some m hx)
  obtain ⟨o1, o2⟩ := Mc.fet_on hx
  obtain ⟨p0, p1, p2, p3⟩ := off_out o1 m.out.ok.c4
  have hcl := m.out.ok.cl
  have hp1 : s.pc ≤ 1048576 := by omega
  clear o1 o2 p1 p2 p3 hcl hx
  have hd : d < 16 := hk.d
  have ha : a < 16 := hk.a
  have hbb : b < 16 := hk.b
  obtain ⟨i0, i1⟩ : -8388608 ≤ i ∧ i ≤ 8388607 := hk.i
  have c26 : w.cell? ⟨g, 26, none⟩ = some (.bool false) := (m.out.c_tl 4).trans (by show some (Value.bool s.ended) = _; rw [he])
  have ca := m.out.c_rg a ha
  have cd := m.out.c_rg d hd
  have cb := m.out.c_rg b hbb
  have c22 : w.cell? ⟨g, 22, none⟩ = some (.int .i64 s.pc) := (m.out.c_tl 0).trans rfl
  have hg := blk_lt m.out.blk
  have q1 : (a : Int) < 16 := by omega
  have q2 : (d : Int) < 16 := by omega
  have q3 : (b : Int) < 16 := by omega
  have r1 := add1 g 6 a
  have r2 := add1 g 6 d
  have r3 := add1 g 6 b
  obtain ⟨xa0, xa1⟩ := m.out.ok.r0 a
  obtain ⟨xd0, xd1⟩ := m.out.ok.r0 d
  obtain ⟨xb0, xb1⟩ := m.out.ok.r0 b
  clear he hk
  generalize hra : s.regs.getD a 0 = ra at *
  generalize hrd : s.regs.getD d 0 = rd at *
  generalize hrb : s.regs.getD b 0 = rb at *
  generalize hpc : s.pc = pc at *
  replace hra := Aside0.mk hra
  replace hrd := Aside0.mk hrd
  replace hrb := Aside0.mk hrb
  replace hpc := Aside0.mk hpc
  go_enter Try.func15, Try.ntmps15
  go_upto_region 7 with (first | (go_at_call 31; (with_reducible refine his.out.mono ?_); rintro e w' ⟨rfl, rfl⟩) | (go_at_call 32; (with_reducible refine hfe.out.mono ?_); rintro e w1 ⟨rfl, hb1⟩; replace hb1 := Aside0.mk hb1))
  have hr : Aside0 ((w1.alloc (.cells #[.int .i64 43, .int .i64 (d : Int), .int .i64 (a : Int), .int .i64 (b : Int), .int .i32 i] 67)).heap[w1.heap.size]? = some (.cells #[.int .i64 43, .int .i64 (d : Int), .int .i64 (a : Int), .int .i64 (b : Int), .int .i32 i] 67 (0, 0))) := ⟨blk_new w1 _⟩
  have hb : Aside0 (Below w.heap.size w (w1.alloc (.cells #[.int .i64 43, .int .i64 (d : Int), .int .i64 (a : Int), .int .i64 (b : Int), .int .i32 i] 67))) := ⟨below_alloc hb1.out _⟩
  have hwp : w.heap.size ≤ w1.heap.size := hb1.out.size
  have hgp : g ≠ w1.heap.size := by omega
  generalize w1.alloc (.cells #[.int .i64 43, .int .i64 (d : Int), .int .i64 (a : Int), .int .i64 (b : Int), .int .i32 i] 67) = W at *
  generalize w1.heap.size = pb at *
  clear hb1
  have d22 := (Below.cell hb.out (p := ⟨g, 22, none⟩) hg).trans c22
  have da := (Below.cell hb.out (p := ⟨g, 6 + a, none⟩) hg).trans ca
  have y2 := (blk_cell hr.out 2).trans (show _ = some (.int .i64 (a : Int)) from rfl)
  go_upto_region 8 with (fail)
  go_quiet (fail)
  have mW : Aside0 (MW (W.drewN nq) base g gm h v s) := ⟨(m.out.below hb.out).below (bdn0 _ _)⟩
  have fW : Aside0 (Fr (S3 g h v) w (W.drewN nq)) := ⟨(Fr.of_below hb.out _).trans (Fr.of_below (bdn0 _ _) _)⟩
  have hrW : Aside0 ((W.drewN nq).heap[pb]? = some (.cells #[.int .i64 43, .int .i64 (d : Int), .int .i64 (a : Int), .int .i64 (b : Int), .int .i32 i] 67 (0, 0))) := ⟨blk_drewN hr.out _⟩
  have hsW : w.heap.size ≤ (W.drewN nq).heap.size := fW.out.kept.1
  generalize W.drewN nq = W2 at *
  clear hb d22 da y2 hr c22 ca cd cb
  have e22 : W2.cell? ⟨g, 22, none⟩ = some (.int .i64 pc) := (mW.out.c_tl 0).trans (by show some (Value.int .i64 s.pc) = _; rw [hpc.out])
  have f22 := mW.out.fz 22
  have y0 := (blk_cell hrW.out 0).trans (show _ = some (.int .i64 43) from rfl)
  have y1 := (blk_cell hrW.out 1).trans (show _ = some (.int .i64 (d : Int)) from rfl)
  have y2 := (blk_cell hrW.out 2).trans (show _ = some (.int .i64 (a : Int)) from rfl)
  have y3 := (blk_cell hrW.out 3).trans (show _ = some (.int .i64 (b : Int)) from rfl)
  have y4 := (blk_cell hrW.out 4).trans (show _ = some (.int .i32 i) from rfl)
  go_wp2_with fail
  go_ret
  exact ⟨rfl, v, by rw [show s.exec _ = s.jump (ra) from by rw [← hra.out]; rfl]; exact mW.out.jump _ (by omega), .inl rfl, fW.out.setCell (p := ⟨g, 22, none⟩) (.inl rfl) _⟩

end Go.Proofs.Ytbhkfdjofopfkaa.MemA
