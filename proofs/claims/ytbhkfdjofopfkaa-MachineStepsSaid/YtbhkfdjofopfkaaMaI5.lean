/- The machine's Step: get, put (printed by mkI.py of session 4). -/
import Derived.Test.YtbhkfdjofopfkaaMaH
namespace Go.Proofs.Ytbhkfdjofopfkaa.MemA
open Go.RowKit Go.Proofs.YtbhkfdjofopfkaaW.PrintWords Go.Proofs.YtbhkfdjofopfkaaW.PrintLast
set_option linter.unusedVariables false
set_option linter.unusedSimpArgs false

theorem MW.push {W w1 : World} {base g gm h : Nat} {v v1 : Value} {s : Mc} (m : MW W base g gm h v s) (x : Int) (ho : Kd.R (Kd.int .u8) 5 w1 base (fun _ => True) v1 (s.out ++ [x])) (hg : W.grownBy w1 v.ownBlock) :
    MW (w1.setCell ⟨g, 25, none⟩ v1) base g gm h v1 { s with out := s.out ++ [x] } := by
  have n1 : some g ≠ v.ownBlock := Kd.R_ne m.out m.blk (by decide)
  have n2 : some gm ≠ v.ownBlock := Kd.R_ne m.out m.mem.cell (by decide)
  have n3 : some h ≠ v.ownBlock := fun e => m.h_own h e.symm rfl
  have b1 := blk_grown m.blk hg n1
  refine ⟨?_, (m.mem.grown hg n2 n3).far (p := ⟨g, 25, none⟩) m.ne_gm m.ne_h _, Kd.R_set ho b1 (by decide) 25 v1, m.hb, ⟨m.ok.rl, m.ok.r0, m.ok.ml, m.ok.m0, m.ok.ul, m.ok.il, m.ok.cl, m.ok.p0, m.ok.c4⟩⟩
  rw [blk_set b1 25 v1, ← Mc.set_tl (t := { s with out := s.out ++ [x] }) m.ok.rl gm v v1 v1 3 rfl rfl rfl]
  simp
theorem Fr.of_grown {W w1 : World} {row : Option Nat} (hg : W.grownBy w1 row) : Fr (fun k => row = some k) W w1 := ⟨hg.os, hg.tape, hg.output, hg.size, fun i hi hn => hg.block i hi (fun e => hn e.symm)⟩

set_option maxHeartbeats 8000000 in
set_option maxRecDepth 100000 in
theorem st_45 {w : World} {base g gm h : Nat} {v : Value} {s : Mc} (m : Aside0 (MW w base g gm h v s)) {d a b : Nat} {i : Int} (hbs : base ≤ w.heap.size) (he : s.ended = false) (hx : s.fet = some ⟨45, d, a, b, i⟩) (hk : (⟨45, d, a, b, i⟩ : In).Ok) (hol : s.out.length < 1099511627776) :
    Calls Try.prog 15 #[PM g] w (StepP g base gm h v true (s.exec ⟨45, d, a, b, i⟩) w) := by
  have his := Aside0.mk (is_ m)
  have hfe := Aside0.mk (fetch_some m hx)
  obtain ⟨o1, o2⟩ := Mc.fet_on hx
  obtain ⟨p0, p1, p2, p3⟩ := off_out o1 m.out.ok.c4
  have hcl := m.out.ok.cl
  have hp1 : s.pc ≤ 1048576 := by omega
  clear o1 o2 p1 p2 p3 hcl hx
  have hd : d < 16 := hk.d
  have ha : a < 16 := hk.a
  have hbb : b < 16 := hk.b
  obtain ⟨i0, i1⟩ : -8388608 ≤ i ∧ i ≤ 8388607 := hk.i
  have c26 : w.cell? ⟨g, 26, none⟩ = some (.bool false) := (m.out.c_tl 4).trans (by show some (Value.bool s.ended) = _; rw [he])
  have ca := m.out.c_rg a ha
  have cd := m.out.c_rg d hd
  have cb := m.out.c_rg b hbb
  have c22 : w.cell? ⟨g, 22, none⟩ = some (.int .i64 s.pc) := (m.out.c_tl 0).trans rfl
  have hg := blk_lt m.out.blk
  have q1 : (a : Int) < 16 := by omega
  have q2 : (d : Int) < 16 := by omega
  have q3 : (b : Int) < 16 := by omega
  have r1 := add1 g 6 a
  have r2 := add1 g 6 d
  have r3 := add1 g 6 b
  obtain ⟨xa0, xa1⟩ := m.out.ok.r0 a
  obtain ⟨xd0, xd1⟩ := m.out.ok.r0 d
  obtain ⟨xb0, xb1⟩ := m.out.ok.r0 b
  clear he hk
  generalize hra : s.regs.getD a 0 = ra at *
  generalize hrd : s.regs.getD d 0 = rd at *
  generalize hrb : s.regs.getD b 0 = rb at *
  generalize hpc : s.pc = pc at *
  replace hra := Aside0.mk hra
  replace hrd := Aside0.mk hrd
  replace hrb := Aside0.mk hrb
  replace hpc := Aside0.mk hpc
  go_enter Try.func15, Try.ntmps15
  go_upto_region 7 with (first | (go_at_call 31; (with_reducible refine his.out.mono ?_); rintro e w' ⟨rfl, rfl⟩) | (go_at_call 32; (with_reducible refine hfe.out.mono ?_); rintro e w1 ⟨rfl, hb1⟩; replace hb1 := Aside0.mk hb1))
  have hr : Aside0 ((w1.alloc (.cells #[.int .i64 45, .int .i64 (d : Int), .int .i64 (a : Int), .int .i64 (b : Int), .int .i32 i] 67)).heap[w1.heap.size]? = some (.cells #[.int .i64 45, .int .i64 (d : Int), .int .i64 (a : Int), .int .i64 (b : Int), .int .i32 i] 67 (0, 0))) := ⟨blk_new w1 _⟩
  have hb : Aside0 (Below w.heap.size w (w1.alloc (.cells #[.int .i64 45, .int .i64 (d : Int), .int .i64 (a : Int), .int .i64 (b : Int), .int .i32 i] 67))) := ⟨below_alloc hb1.out _⟩
  have hwp : w.heap.size ≤ w1.heap.size := hb1.out.size
  have hgp : g ≠ w1.heap.size := by omega
  generalize w1.alloc (.cells #[.int .i64 45, .int .i64 (d : Int), .int .i64 (a : Int), .int .i64 (b : Int), .int .i32 i] 67) = W at *
  generalize w1.heap.size = pb at *
  clear hb1
  have d22 := (Below.cell hb.out (p := ⟨g, 22, none⟩) hg).trans c22
  have da := (Below.cell hb.out (p := ⟨g, 6 + a, none⟩) hg).trans ca
  have y2 := (blk_cell hr.out 2).trans (show _ = some (.int .i64 (a : Int)) from rfl)
  go_upto_region 8 with (fail)
  go_quiet (fail)
  have mW : Aside0 (MW (W.drewN nq) base g gm h v s) := ⟨(m.out.below hb.out).below (bdn0 _ _)⟩
  have fW : Aside0 (Fr (S3 g h v) w (W.drewN nq)) := ⟨(Fr.of_below hb.out _).trans (Fr.of_below (bdn0 _ _) _)⟩
  have hrW : Aside0 ((W.drewN nq).heap[pb]? = some (.cells #[.int .i64 45, .int .i64 (d : Int), .int .i64 (a : Int), .int .i64 (b : Int), .int .i32 i] 67 (0, 0))) := ⟨blk_drewN hr.out _⟩
  have hsW : w.heap.size ≤ (W.drewN nq).heap.size := fW.out.kept.1
  generalize W.drewN nq = W2 at *
  clear hb d22 da y2 hr c22 ca cd cb
  have e22 : W2.cell? ⟨g, 22, none⟩ = some (.int .i64 pc) := (mW.out.c_tl 0).trans (by show some (Value.int .i64 s.pc) = _; rw [hpc.out])
  have f22 := mW.out.fz 22
  have y0 := (blk_cell hrW.out 0).trans (show _ = some (.int .i64 45) from rfl)
  have y1 := (blk_cell hrW.out 1).trans (show _ = some (.int .i64 (d : Int)) from rfl)
  have y2 := (blk_cell hrW.out 2).trans (show _ = some (.int .i64 (a : Int)) from rfl)
  have y3 := (blk_cell hrW.out 3).trans (show _ = some (.int .i64 (b : Int)) from rfl)
  have y4 := (blk_cell hrW.out 4).trans (show _ = some (.int .i32 i) from rfl)
  have x25 : W2.cell? ⟨g, 25, none⟩ = some v := (mW.out.c_tl 3).trans rfl
  have f25 := mW.out.fz 25
  obtain ⟨A, c, rfl⟩ := Kd.R_slice mW.out.out
  generalize hout : s.out = out at *
  replace hout := Aside0.mk hout
  have hol2 : out.length < 1099511627776 := hol
  go_wp2_with (at_builtin; go_loud ((refine Kd.R_append (Kd.int .u8) (w0 := W2) base rfl (.tmp 164) (.tmp 167) 46 5 (.int .u8 0) 1 rfl Try.underlying46 info5 rfl (by decide) (by omega) (.slice A out.length c) out (ra % 256) [.int .u8 (ra % 256)] (fun _ => True) (fun _ => False) rfl rfl ?aP (fun _ hk => hk.elim) ?aF ?aO ?aB ?aS ?aL ?_; (case aP => exact rfl); (case aB => exact Below.refl _ _); (case aF => exact fun _ _ => trivial); (case aO => have := mW.out.out; rw [hout.out] at this; exact this); (case aS => exact Nat.le_trans hbs hsW); (case aL => omega); intro v1 w4 ho hb hg4 hat; have hm4 := Aside0.mk (mW.out.push (ra % 256) (by rw [hout.out]; exact ho) hg4); have z25 : w4.cell? ⟨g, 25, none⟩ = some (.slice A out.length c) := (blk_cell (blk_grown mW.out.blk hg4 (Kd.R_ne mW.out.out mW.out.blk (by decide))) 25).trans ((by rw [← blk_cell mW.out.blk 25]; exact x25)); have zf := blk_frozen (blk_grown mW.out.blk hg4 (Kd.R_ne mW.out.out mW.out.blk (by decide))) 25; have e22b : w4.cell? ⟨g, 22, none⟩ = some (.int .i64 pc) := (blk_cell (blk_grown mW.out.blk hg4 (Kd.R_ne mW.out.out mW.out.blk (by decide))) 22).trans ((by rw [← blk_cell mW.out.blk 22]; exact e22)); have f22b := blk_frozen (blk_grown mW.out.blk hg4 (Kd.R_ne mW.out.out mW.out.blk (by decide))) 22; obtain ⟨A1, c1, rfl⟩ := Kd.R_slice ho; replace ho := Aside0.mk ho; replace hb := Aside0.mk hb; replace hg4 := Aside0.mk hg4; replace hat := Aside0.mk hat)))
  go_ret
  have hlen : (out ++ [ra % 256]).length = out.length + 1 := by simp
  have hm5 := hm4.out.jump (pc + 4) (by omega)
  rw [hlen] at hm5
  have hat2 := hat.out
  rw [hlen] at hat2
  exact ⟨rfl, _, by rw [show s.exec _ = ({ s with out := s.out ++ [ra % 256] } : Mc).jump (pc + 4) from by rw [← hra.out, ← hpc.out]; rfl]; exact hm5, hat2.imp id (fun ⟨b, e1, e2⟩ => ⟨b, e1, Nat.le_trans hsW e2⟩), ((fW.out.trans ((Fr.of_grown hg4.out).mono (fun k hk => .inr (.inr hk)))).setCell (p := ⟨g, 25, none⟩) (.inl rfl) _).setCell (p := ⟨g, 22, none⟩) (.inl rfl) _⟩

theorem getS_pc (s : Mc) : s.getS.pc = s.pc := by unfold Mc.getS; split <;> rfl
theorem getV_bd (s : Mc) : 0 ≤ s.getV ∧ s.getV ≤ 4294967295 := by
  unfold Mc.getV
  split
  · rename_i hu; have := s.inp[s.used].toNat_lt; omega
  · omega

set_option maxHeartbeats 8000000 in
set_option maxRecDepth 100000 in
theorem st_44 {w : World} {base g gm h : Nat} {v : Value} {s : Mc} (m : Aside0 (MW w base g gm h v s)) {d a b : Nat} {i : Int} (he : s.ended = false) (hx : s.fet = some ⟨44, d, a, b, i⟩) (hk : (⟨44, d, a, b, i⟩ : In).Ok) (hol : s.out.length < 1099511627776) :
    Calls Try.prog 15 #[PM g] w (StepP g base gm h v true (s.exec ⟨44, d, a, b, i⟩) w) := by
  have his := Aside0.mk (is_ m)
  have hfe := Aside0.mk (fetch_some m hx)
  obtain ⟨o1, o2⟩ := Mc.fet_on hx
  obtain ⟨p0, p1, p2, p3⟩ := off_out o1 m.out.ok.c4
  have hcl := m.out.ok.cl
  have hp1 : s.pc ≤ 1048576 := by omega
  clear o1 o2 p1 p2 p3 hcl hx
  have hd : d < 16 := hk.d
  have ha : a < 16 := hk.a
  have hbb : b < 16 := hk.b
  obtain ⟨i0, i1⟩ : -8388608 ≤ i ∧ i ≤ 8388607 := hk.i
  have c26 : w.cell? ⟨g, 26, none⟩ = some (.bool false) := (m.out.c_tl 4).trans (by show some (Value.bool s.ended) = _; rw [he])
  have ca := m.out.c_rg a ha
  have cd := m.out.c_rg d hd
  have cb := m.out.c_rg b hbb
  have c22 : w.cell? ⟨g, 22, none⟩ = some (.int .i64 s.pc) := (m.out.c_tl 0).trans rfl
  have hg := blk_lt m.out.blk
  have q1 : (a : Int) < 16 := by omega
  have q2 : (d : Int) < 16 := by omega
  have q3 : (b : Int) < 16 := by omega
  have r1 := add1 g 6 a
  have r2 := add1 g 6 d
  have r3 := add1 g 6 b
  obtain ⟨xa0, xa1⟩ := m.out.ok.r0 a
  obtain ⟨xd0, xd1⟩ := m.out.ok.r0 d
  obtain ⟨xb0, xb1⟩ := m.out.ok.r0 b
  clear he hk
  generalize hra : s.regs.getD a 0 = ra at *
  generalize hrd : s.regs.getD d 0 = rd at *
  generalize hrb : s.regs.getD b 0 = rb at *
  generalize hpc : s.pc = pc at *
  replace hra := Aside0.mk hra
  replace hrd := Aside0.mk hrd
  replace hrb := Aside0.mk hrb
  replace hpc := Aside0.mk hpc
  go_enter Try.func15, Try.ntmps15
  go_upto_region 7 with (first | (go_at_call 31; (with_reducible refine his.out.mono ?_); rintro e w' ⟨rfl, rfl⟩) | (go_at_call 32; (with_reducible refine hfe.out.mono ?_); rintro e w1 ⟨rfl, hb1⟩; replace hb1 := Aside0.mk hb1))
  have hr : Aside0 ((w1.alloc (.cells #[.int .i64 44, .int .i64 (d : Int), .int .i64 (a : Int), .int .i64 (b : Int), .int .i32 i] 67)).heap[w1.heap.size]? = some (.cells #[.int .i64 44, .int .i64 (d : Int), .int .i64 (a : Int), .int .i64 (b : Int), .int .i32 i] 67 (0, 0))) := ⟨blk_new w1 _⟩
  have hb : Aside0 (Below w.heap.size w (w1.alloc (.cells #[.int .i64 44, .int .i64 (d : Int), .int .i64 (a : Int), .int .i64 (b : Int), .int .i32 i] 67))) := ⟨below_alloc hb1.out _⟩
  have hwp : w.heap.size ≤ w1.heap.size := hb1.out.size
  have hgp : g ≠ w1.heap.size := by omega
  generalize w1.alloc (.cells #[.int .i64 44, .int .i64 (d : Int), .int .i64 (a : Int), .int .i64 (b : Int), .int .i32 i] 67) = W at *
  generalize w1.heap.size = pb at *
  clear hb1
  have d22 := (Below.cell hb.out (p := ⟨g, 22, none⟩) hg).trans c22
  have da := (Below.cell hb.out (p := ⟨g, 6 + a, none⟩) hg).trans ca
  have y2 := (blk_cell hr.out 2).trans (show _ = some (.int .i64 (a : Int)) from rfl)
  go_upto_region 8 with (fail)
  go_quiet (fail)
  have mW : Aside0 (MW (W.drewN nq) base g gm h v s) := ⟨(m.out.below hb.out).below (bdn0 _ _)⟩
  have fW : Aside0 (Fr (S3 g h v) w (W.drewN nq)) := ⟨(Fr.of_below hb.out _).trans (Fr.of_below (bdn0 _ _) _)⟩
  have hrW : Aside0 ((W.drewN nq).heap[pb]? = some (.cells #[.int .i64 44, .int .i64 (d : Int), .int .i64 (a : Int), .int .i64 (b : Int), .int .i32 i] 67 (0, 0))) := ⟨blk_drewN hr.out _⟩
  have hsW : w.heap.size ≤ (W.drewN nq).heap.size := fW.out.kept.1
  generalize W.drewN nq = W2 at *
  clear hb d22 da y2 hr c22 ca cd cb
  have e22 : W2.cell? ⟨g, 22, none⟩ = some (.int .i64 pc) := (mW.out.c_tl 0).trans (by show some (Value.int .i64 s.pc) = _; rw [hpc.out])
  have f22 := mW.out.fz 22
  have y0 := (blk_cell hrW.out 0).trans (show _ = some (.int .i64 44) from rfl)
  have y1 := (blk_cell hrW.out 1).trans (show _ = some (.int .i64 (d : Int)) from rfl)
  have y2 := (blk_cell hrW.out 2).trans (show _ = some (.int .i64 (a : Int)) from rfl)
  have y3 := (blk_cell hrW.out 3).trans (show _ = some (.int .i64 (b : Int)) from rfl)
  have y4 := (blk_cell hrW.out 4).trans (show _ = some (.int .i32 i) from rfl)
  have PCR : (s.getS.setR d s.getV).pc = pc := by unfold Mc.setR; split <;> exact (getS_pc s).trans hpc.out
  replace PCR := Aside0.mk PCR
  have hgv := Aside0.mk (getV_bd s)
  have hgp : pb ≠ g := fun e => by subst e; omega
  go_upto_region 40 with (fail)
  have mW3 : Aside0 (MW W2.drew base g gm h v s) := ⟨mW.out.below (below_drew (Below.refl _ _))⟩
  have hget := Aside0.mk (get mW3)
  go_region_held3 (fun w' => w'.cell? ⟨pb, 1, none⟩ = some (.int .i64 (d : Int))) (first | exact y1 | assumption) (first | (go_at_call 36; (with_reducible refine hget.out.mono ?_); rintro e w3 ⟨rfl, m3, o3⟩; have y1b : w3.cell? ⟨pb, 1, none⟩ = some (.int .i64 (d : Int)) := (World.cell?_of_block (w := W2) (by rw [o3.block pb (blk_lt hrW.out) hgp]; rfl)).trans y1; replace m3 := Aside0.mk m3; replace o3 := Aside0.mk o3) | (go_at_call 34; (with_reducible refine (set m3 d hd _ hgv.out.1 hgv.out.2).mono ?_); rintro e w4 ⟨rfl, m4, o4⟩; have y1c : w4.cell? ⟨pb, 1, none⟩ = some (.int .i64 (d : Int)) := (World.cell?_of_block (w := w3) (by rw [o4.block pb (Nat.lt_of_lt_of_le (blk_lt hrW.out) o3.out.size) hgp])).trans y1b; replace m4 := Aside0.mk m4; replace o4 := Aside0.mk o4))
  have k22 : w4.cell? ⟨g, 22, none⟩ = some (.int .i64 pc) := (m4.out.c_tl 0).trans (by show some (Value.int .i64 (Mc.pc _)) = _; exact congrArg some (congrArg (Value.int .i64) PCR.out))
  have z22 := m4.out.fz 22
  clear y1b y1c
  go_wp2_with fail
  go_ret
  exact ⟨rfl, v, by rw [show s.exec _ = (s.getS.setR d s.getV).jump (pc + 4) from by rw [← hpc.out]; rfl]; exact m4.out.jump _ (by omega), .inl rfl, ((fW.out.trans ((Fr.of_below (below_drew (Below.refl _ _)) _).trans ((Fr.of_only o3.out).mono S3.g))).trans ((Fr.of_only o4.out).mono S3.g)).setCell (p := ⟨g, 22, none⟩) (.inl rfl) _⟩

end Go.Proofs.Ytbhkfdjofopfkaa.MemA
