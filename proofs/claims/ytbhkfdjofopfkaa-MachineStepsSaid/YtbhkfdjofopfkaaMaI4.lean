/- The machine's Step: ends (printed by mkI.py of session 4). -/
import Derived.Test.YtbhkfdjofopfkaaMaH
namespace Go.Proofs.Ytbhkfdjofopfkaa.MemA
open Go.RowKit Go.Proofs.YtbhkfdjofopfkaaW.PrintWords Go.Proofs.YtbhkfdjofopfkaaW.PrintLast
set_option linter.unusedVariables false
set_option linter.unusedSimpArgs false

set_option maxHeartbeats 8000000 in
set_option maxRecDepth 100000 in
theorem st_46 {w : World} {base g gm h : Nat} {v : Value} {s : Mc} (m : Aside0 (MW w base g gm h v s)) {d a b : Nat} {i : Int} (he : s.ended = false) (hx : s.fet = some ⟨46, d, a, b, i⟩) (hk : (⟨46, d, a, b, i⟩ : In).Ok) (hol : s.out.length < 1099511627776) :
    Calls Try.prog 15 #[PM g] w (StepP g base gm h v true (s.exec ⟨46, d, a, b, i⟩) w) := by
  have his := Aside0.mk (is_ m)
  have hfe := Aside0.mk (fetch_some m hx)
  obtain ⟨o1, o2⟩ := Mc.fet_on hx
  obtain ⟨p0, p1, p2, p3⟩ := off_out o1 m.out.ok.c4
  have hcl := m.out.ok.cl
  have hp1 : s.pc ≤ 1048576 := by omega
  clear o1 o2 p1 p2 p3 hcl hx
  have hd : d < 16 := hk.d
  have ha : a < 16 := hk.a
  have hbb : b < 16 := hk.b
  obtain ⟨i0, i1⟩ : -8388608 ≤ i ∧ i ≤ 8388607 := hk.i
  have c26 : w.cell? ⟨g, 26, none⟩ = some (.bool false) := (m.out.c_tl 4).trans (by show some (Value.bool s.ended) = _; rw [he])
  have ca := m.out.c_rg a ha
  have cd := m.out.c_rg d hd
  have cb := m.out.c_rg b hbb
  have c22 : w.cell? ⟨g, 22, none⟩ = some (.int .i64 s.pc) := (m.out.c_tl 0).trans rfl
  have hg := blk_lt m.out.blk
  have q1 : (a : Int) < 16 := by omega
  have q2 : (d : Int) < 16 := by omega
  have q3 : (b : Int) < 16 := by omega
  have r1 := add1 g 6 a
  have r2 := add1 g 6 d
  have r3 := add1 g 6 b
  obtain ⟨xa0, xa1⟩ := m.out.ok.r0 a
  obtain ⟨xd0, xd1⟩ := m.out.ok.r0 d
  obtain ⟨xb0, xb1⟩ := m.out.ok.r0 b
  clear he hk
  generalize hra : s.regs.getD a 0 = ra at *
  generalize hrd : s.regs.getD d 0 = rd at *
  generalize hrb : s.regs.getD b 0 = rb at *
  generalize hpc : s.pc = pc at *
  replace hra := Aside0.mk hra
  replace hrd := Aside0.mk hrd
  replace hrb := Aside0.mk hrb
  replace hpc := Aside0.mk hpc
  go_enter Try.func15, Try.ntmps15
  go_upto_region 7 with (first | (go_at_call 31; (with_reducible refine his.out.mono ?_); rintro e w' ⟨rfl, rfl⟩) | (go_at_call 32; (with_reducible refine hfe.out.mono ?_); rintro e w1 ⟨rfl, hb1⟩; replace hb1 := Aside0.mk hb1))
  have hr : Aside0 ((w1.alloc (.cells #[.int .i64 46, .int .i64 (d : Int), .int .i64 (a : Int), .int .i64 (b : Int), .int .i32 i] 67)).heap[w1.heap.size]? = some (.cells #[.int .i64 46, .int .i64 (d : Int), .int .i64 (a : Int), .int .i64 (b : Int), .int .i32 i] 67 (0, 0))) := ⟨blk_new w1 _⟩
  have hb : Aside0 (Below w.heap.size w (w1.alloc (.cells #[.int .i64 46, .int .i64 (d : Int), .int .i64 (a : Int), .int .i64 (b : Int), .int .i32 i] 67))) := ⟨below_alloc hb1.out _⟩
  have hwp : w.heap.size ≤ w1.heap.size := hb1.out.size
  have hgp : g ≠ w1.heap.size := by omega
  generalize w1.alloc (.cells #[.int .i64 46, .int .i64 (d : Int), .int .i64 (a : Int), .int .i64 (b : Int), .int .i32 i] 67) = W at *
  generalize w1.heap.size = pb at *
  clear hb1
  have d22 := (Below.cell hb.out (p := ⟨g, 22, none⟩) hg).trans c22
  have da := (Below.cell hb.out (p := ⟨g, 6 + a, none⟩) hg).trans ca
  have y2 := (blk_cell hr.out 2).trans (show _ = some (.int .i64 (a : Int)) from rfl)
  go_upto_region 8 with (fail)
  go_quiet (fail)
  have mW : Aside0 (MW (W.drewN nq) base g gm h v s) := ⟨(m.out.below hb.out).below (bdn0 _ _)⟩
  have fW : Aside0 (Fr (S3 g h v) w (W.drewN nq)) := ⟨(Fr.of_below hb.out _).trans (Fr.of_below (bdn0 _ _) _)⟩
  have hrW : Aside0 ((W.drewN nq).heap[pb]? = some (.cells #[.int .i64 46, .int .i64 (d : Int), .int .i64 (a : Int), .int .i64 (b : Int), .int .i32 i] 67 (0, 0))) := ⟨blk_drewN hr.out _⟩
  have hsW : w.heap.size ≤ (W.drewN nq).heap.size := fW.out.kept.1
  generalize W.drewN nq = W2 at *
  clear hb d22 da y2 hr c22 ca cd cb
  have e22 : W2.cell? ⟨g, 22, none⟩ = some (.int .i64 pc) := (mW.out.c_tl 0).trans (by show some (Value.int .i64 s.pc) = _; rw [hpc.out])
  have f22 := mW.out.fz 22
  have y0 := (blk_cell hrW.out 0).trans (show _ = some (.int .i64 46) from rfl)
  have y1 := (blk_cell hrW.out 1).trans (show _ = some (.int .i64 (d : Int)) from rfl)
  have y2 := (blk_cell hrW.out 2).trans (show _ = some (.int .i64 (a : Int)) from rfl)
  have y3 := (blk_cell hrW.out 3).trans (show _ = some (.int .i64 (b : Int)) from rfl)
  have y4 := (blk_cell hrW.out 4).trans (show _ = some (.int .i32 i) from rfl)
  go_wp2_with (go_at_call 33; (with_reducible refine (trap mW i).mono ?_); rintro e w3 ⟨rfl, m3, o3⟩; replace m3 := Aside0.mk m3; replace o3 := Aside0.mk o3)
  go_ret
  exact ⟨rfl, v, by rw [show s.exec _ = s.trapK i from by rfl]; exact m3.out, .inl rfl, fW.out.trans ((Fr.of_only o3.out).mono S3.g)⟩

set_option maxHeartbeats 8000000 in
set_option maxRecDepth 100000 in
theorem st_47 {w : World} {base g gm h : Nat} {v : Value} {s : Mc} (m : Aside0 (MW w base g gm h v s)) {d a b : Nat} {i : Int} (he : s.ended = false) (hx : s.fet = some ⟨47, d, a, b, i⟩) (hk : (⟨47, d, a, b, i⟩ : In).Ok) (hol : s.out.length < 1099511627776) :
    Calls Try.prog 15 #[PM g] w (StepP g base gm h v true (s.exec ⟨47, d, a, b, i⟩) w) := by
  have his := Aside0.mk (is_ m)
  have hfe := Aside0.mk (fetch_some m hx)
  obtain ⟨o1, o2⟩ := Mc.fet_on hx
  obtain ⟨p0, p1, p2, p3⟩ := off_out o1 m.out.ok.c4
  have hcl := m.out.ok.cl
  have hp1 : s.pc ≤ 1048576 := by omega
  clear o1 o2 p1 p2 p3 hcl hx
  have hd : d < 16 := hk.d
  have ha : a < 16 := hk.a
  have hbb : b < 16 := hk.b
  obtain ⟨i0, i1⟩ : -8388608 ≤ i ∧ i ≤ 8388607 := hk.i
  have c26 : w.cell? ⟨g, 26, none⟩ = some (.bool false) := (m.out.c_tl 4).trans (by show some (Value.bool s.ended) = _; rw [he])
  have ca := m.out.c_rg a ha
  have cd := m.out.c_rg d hd
  have cb := m.out.c_rg b hbb
  have c22 : w.cell? ⟨g, 22, none⟩ = some (.int .i64 s.pc) := (m.out.c_tl 0).trans rfl
  have hg := blk_lt m.out.blk
  have q1 : (a : Int) < 16 := by omega
  have q2 : (d : Int) < 16 := by omega
  have q3 : (b : Int) < 16 := by omega
  have r1 := add1 g 6 a
  have r2 := add1 g 6 d
  have r3 := add1 g 6 b
  obtain ⟨xa0, xa1⟩ := m.out.ok.r0 a
  obtain ⟨xd0, xd1⟩ := m.out.ok.r0 d
  obtain ⟨xb0, xb1⟩ := m.out.ok.r0 b
  clear he hk
  generalize hra : s.regs.getD a 0 = ra at *
  generalize hrd : s.regs.getD d 0 = rd at *
  generalize hrb : s.regs.getD b 0 = rb at *
  generalize hpc : s.pc = pc at *
  replace hra := Aside0.mk hra
  replace hrd := Aside0.mk hrd
  replace hrb := Aside0.mk hrb
  replace hpc := Aside0.mk hpc
  go_enter Try.func15, Try.ntmps15
  go_upto_region 7 with (first | (go_at_call 31; (with_reducible refine his.out.mono ?_); rintro e w' ⟨rfl, rfl⟩) | (go_at_call 32; (with_reducible refine hfe.out.mono ?_); rintro e w1 ⟨rfl, hb1⟩; replace hb1 := Aside0.mk hb1))
  have hr : Aside0 ((w1.alloc (.cells #[.int .i64 47, .int .i64 (d : Int), .int .i64 (a : Int), .int .i64 (b : Int), .int .i32 i] 67)).heap[w1.heap.size]? = some (.cells #[.int .i64 47, .int .i64 (d : Int), .int .i64 (a : Int), .int .i64 (b : Int), .int .i32 i] 67 (0, 0))) := ⟨blk_new w1 _⟩
  have hb : Aside0 (Below w.heap.size w (w1.alloc (.cells #[.int .i64 47, .int .i64 (d : Int), .int .i64 (a : Int), .int .i64 (b : Int), .int .i32 i] 67))) := ⟨below_alloc hb1.out _⟩
  have hwp : w.heap.size ≤ w1.heap.size := hb1.out.size
  have hgp : g ≠ w1.heap.size := by omega
  generalize w1.alloc (.cells #[.int .i64 47, .int .i64 (d : Int), .int .i64 (a : Int), .int .i64 (b : Int), .int .i32 i] 67) = W at *
  generalize w1.heap.size = pb at *
  clear hb1
  have d22 := (Below.cell hb.out (p := ⟨g, 22, none⟩) hg).trans c22
  have da := (Below.cell hb.out (p := ⟨g, 6 + a, none⟩) hg).trans ca
  have y2 := (blk_cell hr.out 2).trans (show _ = some (.int .i64 (a : Int)) from rfl)
  go_upto_region 8 with (fail)
  go_quiet (fail)
  have mW : Aside0 (MW (W.drewN nq) base g gm h v s) := ⟨(m.out.below hb.out).below (bdn0 _ _)⟩
  have fW : Aside0 (Fr (S3 g h v) w (W.drewN nq)) := ⟨(Fr.of_below hb.out _).trans (Fr.of_below (bdn0 _ _) _)⟩
  have hrW : Aside0 ((W.drewN nq).heap[pb]? = some (.cells #[.int .i64 47, .int .i64 (d : Int), .int .i64 (a : Int), .int .i64 (b : Int), .int .i32 i] 67 (0, 0))) := ⟨blk_drewN hr.out _⟩
  have hsW : w.heap.size ≤ (W.drewN nq).heap.size := fW.out.kept.1
  generalize W.drewN nq = W2 at *
  clear hb d22 da y2 hr c22 ca cd cb
  have e22 : W2.cell? ⟨g, 22, none⟩ = some (.int .i64 pc) := (mW.out.c_tl 0).trans (by show some (Value.int .i64 s.pc) = _; rw [hpc.out])
  have f22 := mW.out.fz 22
  have y0 := (blk_cell hrW.out 0).trans (show _ = some (.int .i64 47) from rfl)
  have y1 := (blk_cell hrW.out 1).trans (show _ = some (.int .i64 (d : Int)) from rfl)
  have y2 := (blk_cell hrW.out 2).trans (show _ = some (.int .i64 (a : Int)) from rfl)
  have y3 := (blk_cell hrW.out 3).trans (show _ = some (.int .i64 (b : Int)) from rfl)
  have y4 := (blk_cell hrW.out 4).trans (show _ = some (.int .i32 i) from rfl)
  have x26 : W2.cell? ⟨g, 26, none⟩ = some (.bool s.ended) := (mW.out.c_tl 4).trans rfl
  have x27 : W2.cell? ⟨g, 27, none⟩ = some (.int .i64 s.kind) := (mW.out.c_tl 5).trans rfl
  have x28 : W2.cell? ⟨g, 28, none⟩ = some (.int .i32 s.ecode) := (mW.out.c_tl 6).trans rfl
  have x29 : W2.cell? ⟨g, 29, none⟩ = some (.int .i64 s.trap) := (mW.out.c_tl 7).trans rfl
  have x30 : W2.cell? ⟨g, 30, none⟩ = some (.string ⟨#[]⟩) := (mW.out.c_tl 8).trans rfl
  have x31 : W2.cell? ⟨g, 31, none⟩ = some (.int .i64 0) := (mW.out.c_tl 9).trans rfl
  have f26 := mW.out.fz 26
  have f27 := mW.out.fz 27
  have f28 := mW.out.fz 28
  have f29 := mW.out.fz 29
  have f30 := mW.out.fz 30
  have f31 := mW.out.fz 31
  go_wp2_with fail
  go_ret
  have k0 := mW.out.ok
  have m1 := mW.out.tl_set (t := { s with ended := true }) 4 (.bool true) rfl rfl rfl rfl rfl ⟨k0.rl, k0.r0, k0.ml, k0.m0, k0.ul, k0.il, k0.cl, k0.p0, k0.c4⟩
  have m2 := m1.tl_set (t := { s with ended := true, kind := 1 }) 5 (.int .i64 1) rfl rfl rfl rfl rfl ⟨k0.rl, k0.r0, k0.ml, k0.m0, k0.ul, k0.il, k0.cl, k0.p0, k0.c4⟩
  have m3 := m2.tl_set (t := { s with ended := true, kind := 1, ecode := wrap32 ra }) 6 (.int .i32 (wrap32 ra)) rfl rfl rfl rfl rfl ⟨k0.rl, k0.r0, k0.ml, k0.m0, k0.ul, k0.il, k0.cl, k0.p0, k0.c4⟩
  have m4 := m3.tl_set (t := { s with ended := true, kind := 1, ecode := wrap32 ra, trap := 0 }) 7 (.int .i64 0) rfl rfl rfl rfl rfl ⟨k0.rl, k0.r0, k0.ml, k0.m0, k0.ul, k0.il, k0.cl, k0.p0, k0.c4⟩
  have m5 := m4.tl_set (t := { s with ended := true, kind := 1, ecode := wrap32 ra, trap := 0 }) 8 (.string ⟨#[]⟩) rfl rfl rfl rfl rfl ⟨k0.rl, k0.r0, k0.ml, k0.m0, k0.ul, k0.il, k0.cl, k0.p0, k0.c4⟩
  have m6 := m5.tl_set (t := { s with ended := true, kind := 1, ecode := wrap32 ra, trap := 0 }) 9 (.int .i64 0) rfl rfl rfl rfl rfl ⟨k0.rl, k0.r0, k0.ml, k0.m0, k0.ul, k0.il, k0.cl, k0.p0, k0.c4⟩
  exact ⟨rfl, v, by rw [show s.exec _ = { s with ended := true, kind := 1, ecode := wrap32 ra, trap := 0 } from by rw [← hra.out]; rfl]; exact m6, .inl rfl, (((((fW.out.setCell (p := ⟨g, 26, none⟩) (.inl rfl) _).setCell (p := ⟨g, 27, none⟩) (.inl rfl) _).setCell (p := ⟨g, 28, none⟩) (.inl rfl) _).setCell (p := ⟨g, 29, none⟩) (.inl rfl) _).setCell (p := ⟨g, 30, none⟩) (.inl rfl) _).setCell (p := ⟨g, 31, none⟩) (.inl rfl) _⟩

end Go.Proofs.Ytbhkfdjofopfkaa.MemA
