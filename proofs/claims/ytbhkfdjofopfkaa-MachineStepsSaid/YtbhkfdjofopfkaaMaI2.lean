/- The machine's Step: memory (printed by mkI.py of session 4). -/
import Derived.Test.YtbhkfdjofopfkaaMaH
namespace Go.Proofs.Ytbhkfdjofopfkaa.MemA
open Go.RowKit Go.Proofs.YtbhkfdjofopfkaaW.PrintWords Go.Proofs.YtbhkfdjofopfkaaW.PrintLast
set_option linter.unusedVariables false
set_option linter.unusedSimpArgs false

theorem msS_pc (s : Mc) (op : Int) (d a : Nat) (i : Int) : (s.msS op d a i).pc = s.pc := by
  unfold Mc.msS Mc.setR Mc.st4 Mc.st1
  repeat' split
  all_goals rfl

set_option maxHeartbeats 8000000 in
set_option maxRecDepth 100000 in
theorem st_l4 {w : World} {base g gm h : Nat} {v : Value} {s : Mc} (m : Aside0 (MW w base g gm h v s)) {d a b : Nat} {i : Int} (he : s.ended = false) (hx : s.fet = some ⟨35, d, a, b, i⟩) (hk : (⟨35, d, a, b, i⟩ : In).Ok) (hol : s.out.length < 1099511627776) :
    Calls Try.prog 15 #[PM g] w (StepP g base gm h v true (s.exec ⟨35, d, a, b, i⟩) w) := by
  have his := Aside0.mk (is_ m)
  have hfe := Aside0.mk (fetch_some m hx)
  obtain ⟨o1, o2⟩ := Mc.fet_on hx
  obtain ⟨p0, p1, p2, p3⟩ := off_out o1 m.out.ok.c4
  have hcl := m.out.ok.cl
  have hp1 : s.pc ≤ 1048576 := by omega
  clear o1 o2 p1 p2 p3 hcl hx
  have hd : d < 16 := hk.d
  have ha : a < 16 := hk.a
  have hbb : b < 16 := hk.b
  obtain ⟨i0, i1⟩ : -8388608 ≤ i ∧ i ≤ 8388607 := hk.i
  have c26 : w.cell? ⟨g, 26, none⟩ = some (.bool false) := (m.out.c_tl 4).trans (by show some (Value.bool s.ended) = _; rw [he])
  have ca := m.out.c_rg a ha
  have cd := m.out.c_rg d hd
  have cb := m.out.c_rg b hbb
  have c22 : w.cell? ⟨g, 22, none⟩ = some (.int .i64 s.pc) := (m.out.c_tl 0).trans rfl
  have hg := blk_lt m.out.blk
  have q1 : (a : Int) < 16 := by omega
  have q2 : (d : Int) < 16 := by omega
  have q3 : (b : Int) < 16 := by omega
  have r1 := add1 g 6 a
  have r2 := add1 g 6 d
  have r3 := add1 g 6 b
  obtain ⟨xa0, xa1⟩ := m.out.ok.r0 a
  obtain ⟨xd0, xd1⟩ := m.out.ok.r0 d
  obtain ⟨xb0, xb1⟩ := m.out.ok.r0 b
  clear he hk
  generalize hra : s.regs.getD a 0 = ra at *
  generalize hrd : s.regs.getD d 0 = rd at *
  generalize hrb : s.regs.getD b 0 = rb at *
  generalize hpc : s.pc = pc at *
  replace hra := Aside0.mk hra
  replace hrd := Aside0.mk hrd
  replace hrb := Aside0.mk hrb
  replace hpc := Aside0.mk hpc
  go_enter Try.func15, Try.ntmps15
  go_upto_region 7 with (first | (go_at_call 31; (with_reducible refine his.out.mono ?_); rintro e w' ⟨rfl, rfl⟩) | (go_at_call 32; (with_reducible refine hfe.out.mono ?_); rintro e w1 ⟨rfl, hb1⟩; replace hb1 := Aside0.mk hb1))
  have hr : Aside0 ((w1.alloc (.cells #[.int .i64 35, .int .i64 (d : Int), .int .i64 (a : Int), .int .i64 (b : Int), .int .i32 i] 67)).heap[w1.heap.size]? = some (.cells #[.int .i64 35, .int .i64 (d : Int), .int .i64 (a : Int), .int .i64 (b : Int), .int .i32 i] 67 (0, 0))) := ⟨blk_new w1 _⟩
  have hb : Aside0 (Below w.heap.size w (w1.alloc (.cells #[.int .i64 35, .int .i64 (d : Int), .int .i64 (a : Int), .int .i64 (b : Int), .int .i32 i] 67))) := ⟨below_alloc hb1.out _⟩
  have hwp : w.heap.size ≤ w1.heap.size := hb1.out.size
  have hgp : g ≠ w1.heap.size := by omega
  generalize w1.alloc (.cells #[.int .i64 35, .int .i64 (d : Int), .int .i64 (a : Int), .int .i64 (b : Int), .int .i32 i] 67) = W at *
  generalize w1.heap.size = pb at *
  clear hb1
  have d22 := (Below.cell hb.out (p := ⟨g, 22, none⟩) hg).trans c22
  have da := (Below.cell hb.out (p := ⟨g, 6 + a, none⟩) hg).trans ca
  have y2 := (blk_cell hr.out 2).trans (show _ = some (.int .i64 (a : Int)) from rfl)
  go_upto_region 8 with (fail)
  go_quiet (fail)
  have mW : Aside0 (MW (W.drewN nq) base g gm h v s) := ⟨(m.out.below hb.out).below (bdn0 _ _)⟩
  have fW : Aside0 (Fr (S3 g h v) w (W.drewN nq)) := ⟨(Fr.of_below hb.out _).trans (Fr.of_below (bdn0 _ _) _)⟩
  have hrW : Aside0 ((W.drewN nq).heap[pb]? = some (.cells #[.int .i64 35, .int .i64 (d : Int), .int .i64 (a : Int), .int .i64 (b : Int), .int .i32 i] 67 (0, 0))) := ⟨blk_drewN hr.out _⟩
  have hsW : w.heap.size ≤ (W.drewN nq).heap.size := fW.out.kept.1
  generalize W.drewN nq = W2 at *
  clear hb d22 da y2 hr c22 ca cd cb
  have e22 : W2.cell? ⟨g, 22, none⟩ = some (.int .i64 pc) := (mW.out.c_tl 0).trans (by show some (Value.int .i64 s.pc) = _; rw [hpc.out])
  have f22 := mW.out.fz 22
  have y0 := (blk_cell hrW.out 0).trans (show _ = some (.int .i64 35) from rfl)
  have y1 := (blk_cell hrW.out 1).trans (show _ = some (.int .i64 (d : Int)) from rfl)
  have y2 := (blk_cell hrW.out 2).trans (show _ = some (.int .i64 (a : Int)) from rfl)
  have y3 := (blk_cell hrW.out 3).trans (show _ = some (.int .i64 (b : Int)) from rfl)
  have y4 := (blk_cell hrW.out 4).trans (show _ = some (.int .i32 i) from rfl)
  have PCR : Aside0 ((s.msS 35 d a i).pc = pc) := ⟨(msS_pc s 35 d a i).trans hpc.out⟩
  cases hE : s.msE 35 d a i
  · replace hE : Aside0 (er (s.msE 35 d a i) = 1) := ⟨by rw [hE]; rfl⟩
    have hE2 : Aside0 (s.msE 35 d a i = false) := ⟨by have := hE.out; unfold er at this; cases hq : s.msE 35 d a i; rfl; rw [hq] at this; cases this⟩
    go_wp2_with first | (go_at_call 35; (with_reducible refine (ms_l4 mW d a (b : Int) i hd ha).mono ?_); rintro e w3 ⟨rfl, m3, o3⟩; rw [hE.out]; have k22 : w3.cell? ⟨g, 22, none⟩ = some (.int .i64 pc) := (m3.c_tl 0).trans (by show some (Value.int .i64 (Mc.pc _)) = _; exact congrArg some (congrArg (Value.int .i64) PCR.out)); have z22 := m3.fz 22; replace m3 := Aside0.mk m3; replace o3 := Aside0.mk o3) | (go_at_call 33; (with_reducible refine (trap m3 5).mono ?_); rintro e w4 ⟨rfl, m4, o4⟩; replace m4 := Aside0.mk m4; replace o4 := Aside0.mk o4)
    go_ret
    exact ⟨rfl, v, by rw [show s.exec _ = (s.msS 35 d a i).trapK 5 from by show (if s.msE 35 d a i = true then _ else _) = _; rw [hE2.out]; rfl]; exact m4.out, .inl rfl, (fW.out.trans (o3.out.mono S3.gh)).trans ((Fr.of_only o4.out).mono S3.g)⟩
  · replace hE : Aside0 (er (s.msE 35 d a i) = 0) := ⟨by rw [hE]; rfl⟩
    have hE2 : Aside0 (s.msE 35 d a i = true) := ⟨by have := hE.out; unfold er at this; cases hq : s.msE 35 d a i; rw [hq] at this; cases this; rfl⟩
    go_wp2_with (go_at_call 35; (with_reducible refine (ms_l4 mW d a (b : Int) i hd ha).mono ?_); rintro e w3 ⟨rfl, m3, o3⟩; rw [hE.out]; have k22 : w3.cell? ⟨g, 22, none⟩ = some (.int .i64 pc) := (m3.c_tl 0).trans (by show some (Value.int .i64 (Mc.pc _)) = _; exact congrArg some (congrArg (Value.int .i64) PCR.out)); have z22 := m3.fz 22; replace m3 := Aside0.mk m3; replace o3 := Aside0.mk o3)
    go_ret
    exact ⟨rfl, v, by rw [show s.exec _ = (s.msS 35 d a i).jump (pc + 4) from by (show (if s.msE 35 d a i = true then _ else _) = _); rw [hE2.out, ← hpc.out]; rfl]; exact m3.out.jump _ (by omega), .inl rfl, (fW.out.trans (o3.out.mono S3.gh)).setCell (p := ⟨g, 22, none⟩) (.inl rfl) _⟩

set_option maxHeartbeats 8000000 in
set_option maxRecDepth 100000 in
theorem st_l1 {w : World} {base g gm h : Nat} {v : Value} {s : Mc} (m : Aside0 (MW w base g gm h v s)) {d a b : Nat} {i : Int} (he : s.ended = false) (hx : s.fet = some ⟨36, d, a, b, i⟩) (hk : (⟨36, d, a, b, i⟩ : In).Ok) (hol : s.out.length < 1099511627776) :
    Calls Try.prog 15 #[PM g] w (StepP g base gm h v true (s.exec ⟨36, d, a, b, i⟩) w) := by
  have his := Aside0.mk (is_ m)
  have hfe := Aside0.mk (fetch_some m hx)
  obtain ⟨o1, o2⟩ := Mc.fet_on hx
  obtain ⟨p0, p1, p2, p3⟩ := off_out o1 m.out.ok.c4
  have hcl := m.out.ok.cl
  have hp1 : s.pc ≤ 1048576 := by omega
  clear o1 o2 p1 p2 p3 hcl hx
  have hd : d < 16 := hk.d
  have ha : a < 16 := hk.a
  have hbb : b < 16 := hk.b
  obtain ⟨i0, i1⟩ : -8388608 ≤ i ∧ i ≤ 8388607 := hk.i
  have c26 : w.cell? ⟨g, 26, none⟩ = some (.bool false) := (m.out.c_tl 4).trans (by show some (Value.bool s.ended) = _; rw [he])
  have ca := m.out.c_rg a ha
  have cd := m.out.c_rg d hd
  have cb := m.out.c_rg b hbb
  have c22 : w.cell? ⟨g, 22, none⟩ = some (.int .i64 s.pc) := (m.out.c_tl 0).trans rfl
  have hg := blk_lt m.out.blk
  have q1 : (a : Int) < 16 := by omega
  have q2 : (d : Int) < 16 := by omega
  have q3 : (b : Int) < 16 := by omega
  have r1 := add1 g 6 a
  have r2 := add1 g 6 d
  have r3 := add1 g 6 b
  obtain ⟨xa0, xa1⟩ := m.out.ok.r0 a
  obtain ⟨xd0, xd1⟩ := m.out.ok.r0 d
  obtain ⟨xb0, xb1⟩ := m.out.ok.r0 b
  clear he hk
  generalize hra : s.regs.getD a 0 = ra at *
  generalize hrd : s.regs.getD d 0 = rd at *
  generalize hrb : s.regs.getD b 0 = rb at *
  generalize hpc : s.pc = pc at *
  replace hra := Aside0.mk hra
  replace hrd := Aside0.mk hrd
  replace hrb := Aside0.mk hrb
  replace hpc := Aside0.mk hpc
  go_enter Try.func15, Try.ntmps15
  go_upto_region 7 with (first | (go_at_call 31; (with_reducible refine his.out.mono ?_); rintro e w' ⟨rfl, rfl⟩) | (go_at_call 32; (with_reducible refine hfe.out.mono ?_); rintro e w1 ⟨rfl, hb1⟩; replace hb1 := Aside0.mk hb1))
  have hr : Aside0 ((w1.alloc (.cells #[.int .i64 36, .int .i64 (d : Int), .int .i64 (a : Int), .int .i64 (b : Int), .int .i32 i] 67)).heap[w1.heap.size]? = some (.cells #[.int .i64 36, .int .i64 (d : Int), .int .i64 (a : Int), .int .i64 (b : Int), .int .i32 i] 67 (0, 0))) := ⟨blk_new w1 _⟩
  have hb : Aside0 (Below w.heap.size w (w1.alloc (.cells #[.int .i64 36, .int .i64 (d : Int), .int .i64 (a : Int), .int .i64 (b : Int), .int .i32 i] 67))) := ⟨below_alloc hb1.out _⟩
  have hwp : w.heap.size ≤ w1.heap.size := hb1.out.size
  have hgp : g ≠ w1.heap.size := by omega
  generalize w1.alloc (.cells #[.int .i64 36, .int .i64 (d : Int), .int .i64 (a : Int), .int .i64 (b : Int), .int .i32 i] 67) = W at *
  generalize w1.heap.size = pb at *
  clear hb1
  have d22 := (Below.cell hb.out (p := ⟨g, 22, none⟩) hg).trans c22
  have da := (Below.cell hb.out (p := ⟨g, 6 + a, none⟩) hg).trans ca
  have y2 := (blk_cell hr.out 2).trans (show _ = some (.int .i64 (a : Int)) from rfl)
  go_upto_region 8 with (fail)
  go_quiet (fail)
  have mW : Aside0 (MW (W.drewN nq) base g gm h v s) := ⟨(m.out.below hb.out).below (bdn0 _ _)⟩
  have fW : Aside0 (Fr (S3 g h v) w (W.drewN nq)) := ⟨(Fr.of_below hb.out _).trans (Fr.of_below (bdn0 _ _) _)⟩
  have hrW : Aside0 ((W.drewN nq).heap[pb]? = some (.cells #[.int .i64 36, .int .i64 (d : Int), .int .i64 (a : Int), .int .i64 (b : Int), .int .i32 i] 67 (0, 0))) := ⟨blk_drewN hr.out _⟩
  have hsW : w.heap.size ≤ (W.drewN nq).heap.size := fW.out.kept.1
  generalize W.drewN nq = W2 at *
  clear hb d22 da y2 hr c22 ca cd cb
  have e22 : W2.cell? ⟨g, 22, none⟩ = some (.int .i64 pc) := (mW.out.c_tl 0).trans (by show some (Value.int .i64 s.pc) = _; rw [hpc.out])
  have f22 := mW.out.fz 22
  have y0 := (blk_cell hrW.out 0).trans (show _ = some (.int .i64 36) from rfl)
  have y1 := (blk_cell hrW.out 1).trans (show _ = some (.int .i64 (d : Int)) from rfl)
  have y2 := (blk_cell hrW.out 2).trans (show _ = some (.int .i64 (a : Int)) from rfl)
  have y3 := (blk_cell hrW.out 3).trans (show _ = some (.int .i64 (b : Int)) from rfl)
  have y4 := (blk_cell hrW.out 4).trans (show _ = some (.int .i32 i) from rfl)
  have PCR : Aside0 ((s.msS 36 d a i).pc = pc) := ⟨(msS_pc s 36 d a i).trans hpc.out⟩
  cases hE : s.msE 36 d a i
  · replace hE : Aside0 (er (s.msE 36 d a i) = 1) := ⟨by rw [hE]; rfl⟩
    have hE2 : Aside0 (s.msE 36 d a i = false) := ⟨by have := hE.out; unfold er at this; cases hq : s.msE 36 d a i; rfl; rw [hq] at this; cases this⟩
    go_wp2_with first | (go_at_call 35; (with_reducible refine (ms_l1 mW d a (b : Int) i hd ha).mono ?_); rintro e w3 ⟨rfl, m3, o3⟩; rw [hE.out]; have k22 : w3.cell? ⟨g, 22, none⟩ = some (.int .i64 pc) := (m3.c_tl 0).trans (by show some (Value.int .i64 (Mc.pc _)) = _; exact congrArg some (congrArg (Value.int .i64) PCR.out)); have z22 := m3.fz 22; replace m3 := Aside0.mk m3; replace o3 := Aside0.mk o3) | (go_at_call 33; (with_reducible refine (trap m3 5).mono ?_); rintro e w4 ⟨rfl, m4, o4⟩; replace m4 := Aside0.mk m4; replace o4 := Aside0.mk o4)
    go_ret
    exact ⟨rfl, v, by rw [show s.exec _ = (s.msS 36 d a i).trapK 5 from by show (if s.msE 36 d a i = true then _ else _) = _; rw [hE2.out]; rfl]; exact m4.out, .inl rfl, (fW.out.trans (o3.out.mono S3.gh)).trans ((Fr.of_only o4.out).mono S3.g)⟩
  · replace hE : Aside0 (er (s.msE 36 d a i) = 0) := ⟨by rw [hE]; rfl⟩
    have hE2 : Aside0 (s.msE 36 d a i = true) := ⟨by have := hE.out; unfold er at this; cases hq : s.msE 36 d a i; rw [hq] at this; cases this; rfl⟩
    go_wp2_with (go_at_call 35; (with_reducible refine (ms_l1 mW d a (b : Int) i hd ha).mono ?_); rintro e w3 ⟨rfl, m3, o3⟩; rw [hE.out]; have k22 : w3.cell? ⟨g, 22, none⟩ = some (.int .i64 pc) := (m3.c_tl 0).trans (by show some (Value.int .i64 (Mc.pc _)) = _; exact congrArg some (congrArg (Value.int .i64) PCR.out)); have z22 := m3.fz 22; replace m3 := Aside0.mk m3; replace o3 := Aside0.mk o3)
    go_ret
    exact ⟨rfl, v, by rw [show s.exec _ = (s.msS 36 d a i).jump (pc + 4) from by (show (if s.msE 36 d a i = true then _ else _) = _); rw [hE2.out, ← hpc.out]; rfl]; exact m3.out.jump _ (by omega), .inl rfl, (fW.out.trans (o3.out.mono S3.gh)).setCell (p := ⟨g, 22, none⟩) (.inl rfl) _⟩

set_option maxHeartbeats 8000000 in
set_option maxRecDepth 100000 in
theorem st_s4 {w : World} {base g gm h : Nat} {v : Value} {s : Mc} (m : Aside0 (MW w base g gm h v s)) {d a b : Nat} {i : Int} (he : s.ended = false) (hx : s.fet = some ⟨37, d, a, b, i⟩) (hk : (⟨37, d, a, b, i⟩ : In).Ok) (hol : s.out.length < 1099511627776) :
    Calls Try.prog 15 #[PM g] w (StepP g base gm h v true (s.exec ⟨37, d, a, b, i⟩) w) := by
  have his := Aside0.mk (is_ m)
  have hfe := Aside0.mk (fetch_some m hx)
  obtain ⟨o1, o2⟩ := Mc.fet_on hx
  obtain ⟨p0, p1, p2, p3⟩ := off_out o1 m.out.ok.c4
  have hcl := m.out.ok.cl
  have hp1 : s.pc ≤ 1048576 := by omega
  clear o1 o2 p1 p2 p3 hcl hx
  have hd : d < 16 := hk.d
  have ha : a < 16 := hk.a
  have hbb : b < 16 := hk.b
  obtain ⟨i0, i1⟩ : -8388608 ≤ i ∧ i ≤ 8388607 := hk.i
  have c26 : w.cell? ⟨g, 26, none⟩ = some (.bool false) := (m.out.c_tl 4).trans (by show some (Value.bool s.ended) = _; rw [he])
  have ca := m.out.c_rg a ha
  have cd := m.out.c_rg d hd
  have cb := m.out.c_rg b hbb
  have c22 : w.cell? ⟨g, 22, none⟩ = some (.int .i64 s.pc) := (m.out.c_tl 0).trans rfl
  have hg := blk_lt m.out.blk
  have q1 : (a : Int) < 16 := by omega
  have q2 : (d : Int) < 16 := by omega
  have q3 : (b : Int) < 16 := by omega
  have r1 := add1 g 6 a
  have r2 := add1 g 6 d
  have r3 := add1 g 6 b
  obtain ⟨xa0, xa1⟩ := m.out.ok.r0 a
  obtain ⟨xd0, xd1⟩ := m.out.ok.r0 d
  obtain ⟨xb0, xb1⟩ := m.out.ok.r0 b
  clear he hk
  generalize hra : s.regs.getD a 0 = ra at *
  generalize hrd : s.regs.getD d 0 = rd at *
  generalize hrb : s.regs.getD b 0 = rb at *
  generalize hpc : s.pc = pc at *
  replace hra := Aside0.mk hra
  replace hrd := Aside0.mk hrd
  replace hrb := Aside0.mk hrb
  replace hpc := Aside0.mk hpc
  go_enter Try.func15, Try.ntmps15
  go_upto_region 7 with (first | (go_at_call 31; (with_reducible refine his.out.mono ?_); rintro e w' ⟨rfl, rfl⟩) | (go_at_call 32; (with_reducible refine hfe.out.mono ?_); rintro e w1 ⟨rfl, hb1⟩; replace hb1 := Aside0.mk hb1))
  have hr : Aside0 ((w1.alloc (.cells #[.int .i64 37, .int .i64 (d : Int), .int .i64 (a : Int), .int .i64 (b : Int), .int .i32 i] 67)).heap[w1.heap.size]? = some (.cells #[.int .i64 37, .int .i64 (d : Int), .int .i64 (a : Int), .int .i64 (b : Int), .int .i32 i] 67 (0, 0))) := ⟨blk_new w1 _⟩
  have hb : Aside0 (Below w.heap.size w (w1.alloc (.cells #[.int .i64 37, .int .i64 (d : Int), .int .i64 (a : Int), .int .i64 (b : Int), .int .i32 i] 67))) := ⟨below_alloc hb1.out _⟩
  have hwp : w.heap.size ≤ w1.heap.size := hb1.out.size
  have hgp : g ≠ w1.heap.size := by omega
  generalize w1.alloc (.cells #[.int .i64 37, .int .i64 (d : Int), .int .i64 (a : Int), .int .i64 (b : Int), .int .i32 i] 67) = W at *
  generalize w1.heap.size = pb at *
  clear hb1
  have d22 := (Below.cell hb.out (p := ⟨g, 22, none⟩) hg).trans c22
  have da := (Below.cell hb.out (p := ⟨g, 6 + a, none⟩) hg).trans ca
  have y2 := (blk_cell hr.out 2).trans (show _ = some (.int .i64 (a : Int)) from rfl)
  go_upto_region 8 with (fail)
  go_quiet (fail)
  have mW : Aside0 (MW (W.drewN nq) base g gm h v s) := ⟨(m.out.below hb.out).below (bdn0 _ _)⟩
  have fW : Aside0 (Fr (S3 g h v) w (W.drewN nq)) := ⟨(Fr.of_below hb.out _).trans (Fr.of_below (bdn0 _ _) _)⟩
  have hrW : Aside0 ((W.drewN nq).heap[pb]? = some (.cells #[.int .i64 37, .int .i64 (d : Int), .int .i64 (a : Int), .int .i64 (b : Int), .int .i32 i] 67 (0, 0))) := ⟨blk_drewN hr.out _⟩
  have hsW : w.heap.size ≤ (W.drewN nq).heap.size := fW.out.kept.1
  generalize W.drewN nq = W2 at *
  clear hb d22 da y2 hr c22 ca cd cb
  have e22 : W2.cell? ⟨g, 22, none⟩ = some (.int .i64 pc) := (mW.out.c_tl 0).trans (by show some (Value.int .i64 s.pc) = _; rw [hpc.out])
  have f22 := mW.out.fz 22
  have y0 := (blk_cell hrW.out 0).trans (show _ = some (.int .i64 37) from rfl)
  have y1 := (blk_cell hrW.out 1).trans (show _ = some (.int .i64 (d : Int)) from rfl)
  have y2 := (blk_cell hrW.out 2).trans (show _ = some (.int .i64 (a : Int)) from rfl)
  have y3 := (blk_cell hrW.out 3).trans (show _ = some (.int .i64 (b : Int)) from rfl)
  have y4 := (blk_cell hrW.out 4).trans (show _ = some (.int .i32 i) from rfl)
  have PCR : Aside0 ((s.msS 37 d a i).pc = pc) := ⟨(msS_pc s 37 d a i).trans hpc.out⟩
  cases hE : s.msE 37 d a i
  · replace hE : Aside0 (er (s.msE 37 d a i) = 1) := ⟨by rw [hE]; rfl⟩
    have hE2 : Aside0 (s.msE 37 d a i = false) := ⟨by have := hE.out; unfold er at this; cases hq : s.msE 37 d a i; rfl; rw [hq] at this; cases this⟩
    go_wp2_with first | (go_at_call 35; (with_reducible refine (ms_s4 mW d a (b : Int) i hd ha).mono ?_); rintro e w3 ⟨rfl, m3, o3⟩; rw [hE.out]; have k22 : w3.cell? ⟨g, 22, none⟩ = some (.int .i64 pc) := (m3.c_tl 0).trans (by show some (Value.int .i64 (Mc.pc _)) = _; exact congrArg some (congrArg (Value.int .i64) PCR.out)); have z22 := m3.fz 22; replace m3 := Aside0.mk m3; replace o3 := Aside0.mk o3) | (go_at_call 33; (with_reducible refine (trap m3 5).mono ?_); rintro e w4 ⟨rfl, m4, o4⟩; replace m4 := Aside0.mk m4; replace o4 := Aside0.mk o4)
    go_ret
    exact ⟨rfl, v, by rw [show s.exec _ = (s.msS 37 d a i).trapK 5 from by show (if s.msE 37 d a i = true then _ else _) = _; rw [hE2.out]; rfl]; exact m4.out, .inl rfl, (fW.out.trans (o3.out.mono S3.gh)).trans ((Fr.of_only o4.out).mono S3.g)⟩
  · replace hE : Aside0 (er (s.msE 37 d a i) = 0) := ⟨by rw [hE]; rfl⟩
    have hE2 : Aside0 (s.msE 37 d a i = true) := ⟨by have := hE.out; unfold er at this; cases hq : s.msE 37 d a i; rw [hq] at this; cases this; rfl⟩
    go_wp2_with (go_at_call 35; (with_reducible refine (ms_s4 mW d a (b : Int) i hd ha).mono ?_); rintro e w3 ⟨rfl, m3, o3⟩; rw [hE.out]; have k22 : w3.cell? ⟨g, 22, none⟩ = some (.int .i64 pc) := (m3.c_tl 0).trans (by show some (Value.int .i64 (Mc.pc _)) = _; exact congrArg some (congrArg (Value.int .i64) PCR.out)); have z22 := m3.fz 22; replace m3 := Aside0.mk m3; replace o3 := Aside0.mk o3)
    go_ret
    exact ⟨rfl, v, by rw [show s.exec _ = (s.msS 37 d a i).jump (pc + 4) from by (show (if s.msE 37 d a i = true then _ else _) = _); rw [hE2.out, ← hpc.out]; rfl]; exact m3.out.jump _ (by omega), .inl rfl, (fW.out.trans (o3.out.mono S3.gh)).setCell (p := ⟨g, 22, none⟩) (.inl rfl) _⟩

set_option maxHeartbeats 8000000 in
set_option maxRecDepth 100000 in
theorem st_s1 {w : World} {base g gm h : Nat} {v : Value} {s : Mc} (m : Aside0 (MW w base g gm h v s)) {d a b : Nat} {i : Int} (he : s.ended = false) (hx : s.fet = some ⟨38, d, a, b, i⟩) (hk : (⟨38, d, a, b, i⟩ : In).Ok) (hol : s.out.length < 1099511627776) :
    Calls Try.prog 15 #[PM g] w (StepP g base gm h v true (s.exec ⟨38, d, a, b, i⟩) w) := by
  have his := Aside0.mk (is_ m)
  have hfe := Aside0.mk (fetch_some m hx)
  obtain ⟨o1, o2⟩ := Mc.fet_on hx
  obtain ⟨p0, p1, p2, p3⟩ := off_out o1 m.out.ok.c4
  have hcl := m.out.ok.cl
  have hp1 : s.pc ≤ 1048576 := by omega
  clear o1 o2 p1 p2 p3 hcl hx
  have hd : d < 16 := hk.d
  have ha : a < 16 := hk.a
  have hbb : b < 16 := hk.b
  obtain ⟨i0, i1⟩ : -8388608 ≤ i ∧ i ≤ 8388607 := hk.i
  have c26 : w.cell? ⟨g, 26, none⟩ = some (.bool false) := (m.out.c_tl 4).trans (by show some (Value.bool s.ended) = _; rw [he])
  have ca := m.out.c_rg a ha
  have cd := m.out.c_rg d hd
  have cb := m.out.c_rg b hbb
  have c22 : w.cell? ⟨g, 22, none⟩ = some (.int .i64 s.pc) := (m.out.c_tl 0).trans rfl
  have hg := blk_lt m.out.blk
  have q1 : (a : Int) < 16 := by omega
  have q2 : (d : Int) < 16 := by omega
  have q3 : (b : Int) < 16 := by omega
  have r1 := add1 g 6 a
  have r2 := add1 g 6 d
  have r3 := add1 g 6 b
  obtain ⟨xa0, xa1⟩ := m.out.ok.r0 a
  obtain ⟨xd0, xd1⟩ := m.out.ok.r0 d
  obtain ⟨xb0, xb1⟩ := m.out.ok.r0 b
  clear he hk
  generalize hra : s.regs.getD a 0 = ra at *
  generalize hrd : s.regs.getD d 0 = rd at *
  generalize hrb : s.regs.getD b 0 = rb at *
  generalize hpc : s.pc = pc at *
  replace hra := Aside0.mk hra
  replace hrd := Aside0.mk hrd
  replace hrb := Aside0.mk hrb
  replace hpc := Aside0.mk hpc
  go_enter Try.func15, Try.ntmps15
  go_upto_region 7 with (first | (go_at_call 31; (with_reducible refine his.out.mono ?_); rintro e w' ⟨rfl, rfl⟩) | (go_at_call 32; (with_reducible refine hfe.out.mono ?_); rintro e w1 ⟨rfl, hb1⟩; replace hb1 := Aside0.mk hb1))
  have hr : Aside0 ((w1.alloc (.cells #[.int .i64 38, .int .i64 (d : Int), .int .i64 (a : Int), .int .i64 (b : Int), .int .i32 i] 67)).heap[w1.heap.size]? = some (.cells #[.int .i64 38, .int .i64 (d : Int), .int .i64 (a : Int), .int .i64 (b : Int), .int .i32 i] 67 (0, 0))) := ⟨blk_new w1 _⟩
  have hb : Aside0 (Below w.heap.size w (w1.alloc (.cells #[.int .i64 38, .int .i64 (d : Int), .int .i64 (a : Int), .int .i64 (b : Int), .int .i32 i] 67))) := ⟨below_alloc hb1.out _⟩
  have hwp : w.heap.size ≤ w1.heap.size := hb1.out.size
  have hgp : g ≠ w1.heap.size := by omega
  generalize w1.alloc (.cells #[.int .i64 38, .int .i64 (d : Int), .int .i64 (a : Int), .int .i64 (b : Int), .int .i32 i] 67) = W at *
  generalize w1.heap.size = pb at *
  clear hb1
  have d22 := (Below.cell hb.out (p := ⟨g, 22, none⟩) hg).trans c22
  have da := (Below.cell hb.out (p := ⟨g, 6 + a, none⟩) hg).trans ca
  have y2 := (blk_cell hr.out 2).trans (show _ = some (.int .i64 (a : Int)) from rfl)
  go_upto_region 8 with (fail)
  go_quiet (fail)
  have mW : Aside0 (MW (W.drewN nq) base g gm h v s) := ⟨(m.out.below hb.out).below (bdn0 _ _)⟩
  have fW : Aside0 (Fr (S3 g h v) w (W.drewN nq)) := ⟨(Fr.of_below hb.out _).trans (Fr.of_below (bdn0 _ _) _)⟩
  have hrW : Aside0 ((W.drewN nq).heap[pb]? = some (.cells #[.int .i64 38, .int .i64 (d : Int), .int .i64 (a : Int), .int .i64 (b : Int), .int .i32 i] 67 (0, 0))) := ⟨blk_drewN hr.out _⟩
  have hsW : w.heap.size ≤ (W.drewN nq).heap.size := fW.out.kept.1
  generalize W.drewN nq = W2 at *
  clear hb d22 da y2 hr c22 ca cd cb
  have e22 : W2.cell? ⟨g, 22, none⟩ = some (.int .i64 pc) := (mW.out.c_tl 0).trans (by show some (Value.int .i64 s.pc) = _; rw [hpc.out])
  have f22 := mW.out.fz 22
  have y0 := (blk_cell hrW.out 0).trans (show _ = some (.int .i64 38) from rfl)
  have y1 := (blk_cell hrW.out 1).trans (show _ = some (.int .i64 (d : Int)) from rfl)
  have y2 := (blk_cell hrW.out 2).trans (show _ = some (.int .i64 (a : Int)) from rfl)
  have y3 := (blk_cell hrW.out 3).trans (show _ = some (.int .i64 (b : Int)) from rfl)
  have y4 := (blk_cell hrW.out 4).trans (show _ = some (.int .i32 i) from rfl)
  have PCR : Aside0 ((s.msS 38 d a i).pc = pc) := ⟨(msS_pc s 38 d a i).trans hpc.out⟩
  cases hE : s.msE 38 d a i
  · replace hE : Aside0 (er (s.msE 38 d a i) = 1) := ⟨by rw [hE]; rfl⟩
    have hE2 : Aside0 (s.msE 38 d a i = false) := ⟨by have := hE.out; unfold er at this; cases hq : s.msE 38 d a i; rfl; rw [hq] at this; cases this⟩
    go_wp2_with first | (go_at_call 35; (with_reducible refine (ms_s1 mW d a (b : Int) i hd ha).mono ?_); rintro e w3 ⟨rfl, m3, o3⟩; rw [hE.out]; have k22 : w3.cell? ⟨g, 22, none⟩ = some (.int .i64 pc) := (m3.c_tl 0).trans (by show some (Value.int .i64 (Mc.pc _)) = _; exact congrArg some (congrArg (Value.int .i64) PCR.out)); have z22 := m3.fz 22; replace m3 := Aside0.mk m3; replace o3 := Aside0.mk o3) | (go_at_call 33; (with_reducible refine (trap m3 5).mono ?_); rintro e w4 ⟨rfl, m4, o4⟩; replace m4 := Aside0.mk m4; replace o4 := Aside0.mk o4)
    go_ret
    exact ⟨rfl, v, by rw [show s.exec _ = (s.msS 38 d a i).trapK 5 from by show (if s.msE 38 d a i = true then _ else _) = _; rw [hE2.out]; rfl]; exact m4.out, .inl rfl, (fW.out.trans (o3.out.mono S3.gh)).trans ((Fr.of_only o4.out).mono S3.g)⟩
  · replace hE : Aside0 (er (s.msE 38 d a i) = 0) := ⟨by rw [hE]; rfl⟩
    have hE2 : Aside0 (s.msE 38 d a i = true) := ⟨by have := hE.out; unfold er at this; cases hq : s.msE 38 d a i; rw [hq] at this; cases this; rfl⟩
    go_wp2_with (go_at_call 35; (with_reducible refine (ms_s1 mW d a (b : Int) i hd ha).mono ?_); rintro e w3 ⟨rfl, m3, o3⟩; rw [hE.out]; have k22 : w3.cell? ⟨g, 22, none⟩ = some (.int .i64 pc) := (m3.c_tl 0).trans (by show some (Value.int .i64 (Mc.pc _)) = _; exact congrArg some (congrArg (Value.int .i64) PCR.out)); have z22 := m3.fz 22; replace m3 := Aside0.mk m3; replace o3 := Aside0.mk o3)
    go_ret
    exact ⟨rfl, v, by rw [show s.exec _ = (s.msS 38 d a i).jump (pc + 4) from by (show (if s.msE 38 d a i = true then _ else _) = _); rw [hE2.out, ← hpc.out]; rfl]; exact m3.out.jump _ (by omega), .inl rfl, (fW.out.trans (o3.out.mono S3.gh)).setCell (p := ⟨g, 22, none⟩) (.inl rfl) _⟩

end Go.Proofs.Ytbhkfdjofopfkaa.MemA
