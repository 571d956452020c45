/- The reference's machine: moves (printed by mkR.py of session 4). -/
import Derived.Test.YtbhkfdjofopfkaaRaC
import Derived.StillTailTactics
namespace Go.Proofs.Ytbhkfdjofopfkaa.MemA
open Go.RowKit Go.Proofs.YtbhkfdjofopfkaaW.PrintWords Go.Proofs.YtbhkfdjofopfkaaW.PrintLast
set_option linter.unusedVariables false
set_option linter.unusedSimpArgs false

/-- What a load or a store makes of a machine. -/
def Mc.rmov (s : Mc) (op : Int) (d a : Nat) (i : Int) : Mc := if s.msE op d a i = true then s.msS op d a i else (s.msS op d a i).trapK 5

set_option maxHeartbeats 8000000 in
set_option maxRecDepth 100000 in
theorem mov_l4 {w : World} {base g gm h : Nat} {v : Value} {s : Mc} (m : Aside0 (RW w base g gm h v s)) {d a b : Nat} {i : Int} (hd : d < 16) (ha : a < 16) (hp0 : 0 ≤ s.pc) (hp1 : s.pc ≤ 1048576) (i0 : -8388608 ≤ i) (i1 : i ≤ 8388607) :
    Calls Try.prog 45 #[PM g, insV 35 d a b i] w (RetR (SR g h v) g base gm h v (.bool true) (s.rmov 35 d a i) w) := by
  have ca := m.out.c_rg a ha
  have cd := m.out.c_rg d hd
  have c23 : w.cell? ⟨g, 23, none⟩ = some (.int .i64 s.pc) := (m.out.c_tl 0).trans rfl
  have hg := blk_lt m.out.blk
  have q1 : (a : Int) < 16 := by omega
  have q2 : (d : Int) < 16 := by omega
  have r1 := add1 g 7 a
  have r2 := add1 g 7 d
  obtain ⟨xa0, xa1⟩ := m.out.ok.r0 a
  obtain ⟨xd0, xd1⟩ := m.out.ok.r0 d
  have hA : Aside0 ((s.regs.getD a 0 + i) % 4294967296 = s.adr a i) := ⟨rfl⟩
  have hT : Aside0 (0 ≤ s.adr a i ∧ s.adr a i < 4294967296) := ⟨s.adr_bd a i⟩
  have hE : Aside0 (s.msE 35 d a i = ok4 (s.adr a i)) := ⟨rfl⟩
  have hM : Aside0 (s.rmov 35 d a i = if s.msE 35 d a i = true then s.msS 35 d a i else (s.msS 35 d a i).trapK 5) := ⟨rfl⟩
  have hS : Aside0 (s.msS 35 d a i = if ok4 (s.adr a i) then s.setR d (w4 s.mem (s.adr a i).toNat) else s) := ⟨rfl⟩
  generalize s.adr a i = t at *
  generalize hra : s.regs.getD a 0 = ra at *
  generalize hrd : s.regs.getD d 0 = rd at *
  generalize hpc : s.pc = pc at *
  replace hra := Aside0.mk hra
  replace hrd := Aside0.mk hrd
  replace hpc := Aside0.mk hpc
  have hr : Aside0 ((w.alloc (.cells #[.int .i64 35, .int .i64 (d : Int), .int .i64 (a : Int), .int .i64 (b : Int), .int .i32 i] 67)).heap[w.heap.size]? = some (.cells #[.int .i64 35, .int .i64 (d : Int), .int .i64 (a : Int), .int .i64 (b : Int), .int .i32 i] 67 (0, 0))) := ⟨blk_new w _⟩
  have hb : Aside0 (Below w.heap.size w (w.alloc (.cells #[.int .i64 35, .int .i64 (d : Int), .int .i64 (a : Int), .int .i64 (b : Int), .int .i32 i] 67))) := ⟨below_alloc (Below.refl _ _) _⟩
  go_enter Try.func45, Try.ntmps45
  go_upto_region 1 with (fail)
  have hgp : g ≠ w.heap.size := Nat.ne_of_lt hg
  have hpg : w.heap.size ≠ g := Ne.symm hgp
  generalize w.alloc (.cells #[.int .i64 35, .int .i64 (d : Int), .int .i64 (a : Int), .int .i64 (b : Int), .int .i32 i] 67) = W at *
  have mW : Aside0 (RW W base g gm h v s) := ⟨m.out.below hb.out⟩
  have fW : Aside0 (Fr (SR g h v) w W) := ⟨Fr.of_below hb.out _⟩
  have da := (Below.cell hb.out (p := ⟨g, 7 + a, none⟩) hg).trans ca
  have dd := (Below.cell hb.out (p := ⟨g, 7 + d, none⟩) hg).trans cd
  have d23 := (Below.cell hb.out (p := ⟨g, 23, none⟩) hg).trans c23
  have y0 := (blk_cell hr.out 0).trans (show _ = some (.int .i64 35) from rfl)
  have y1 := (blk_cell hr.out 1).trans (show _ = some (.int .i64 (d : Int)) from rfl)
  have y2 := (blk_cell hr.out 2).trans (show _ = some (.int .i64 (a : Int)) from rfl)
  have y4 := (blk_cell hr.out 4).trans (show _ = some (.int .i32 i) from rfl)
  clear ca cd c23
  go_quiet (fail)
  have mX : Aside0 (RW (W.drewN nq) base g gm h v s) := ⟨mW.out.below (bdn0 _ _)⟩
  have fX : Aside0 (Fr (SR g h v) w (W.drewN nq)) := ⟨fW.out.trans (Fr.of_below (bdn0 _ _) _)⟩
  have hX : Aside0 ((W.drewN nq).heap[w.heap.size]? = some (.cells #[.int .i64 35, .int .i64 (d : Int), .int .i64 (a : Int), .int .i64 (b : Int), .int .i32 i] 67 (0, 0))) := ⟨blk_drewN hr.out _⟩
  have dd2 : (W.drewN nq).cell? ⟨g, 7 + d, none⟩ = some (.int .u32 rd) := dd
  have k6 : (W.drewN nq).cell? ⟨g, 6, none⟩ = some (.pointer (some ⟨gm, 0, none⟩)) := (mX.out.c_hd 6 (by omega)).trans rfl
  generalize W.drewN nq = X at *
  clear da dd d23 y0 y1 y2 y4 mW fW hb hr
  have y0 := (blk_cell hX.out 0).trans (show _ = some (.int .i64 35) from rfl)
  have y1 := (blk_cell hX.out 1).trans (show _ = some (.int .i64 (d : Int)) from rfl)
  cases hk : ok4 t
  · have hk' := Aside0.mk hk
    clear hk
    go_wp2_with first | (go_at_call 61; (with_reducible refine (rld4 mX _ (by omega) (by omega)).mono ?_); rw [hA.out, hk'.out]; rintro e w2 ⟨rfl, rfl⟩; simp only [if_false, Bool.false_eq_true]) | (go_at_call 41; (with_reducible refine (rtrap mX 5).mono ?_); rintro e w3 ⟨rfl, m3, o3⟩; replace m3 := Aside0.mk m3; replace o3 := Aside0.mk o3)
    go_ret
    exact ⟨rfl, by rw [hM.out, hE.out, hk'.out, hS.out, hk'.out]; exact m3.out, fX.out.trans (o3.out.mono SR.g)⟩
  · have hk' := Aside0.mk hk
    clear hk
    have hv : Aside0 (0 ≤ w4 s.mem t.toNat ∧ w4 s.mem t.toNat ≤ 4294967295) := ⟨w4_bd m.out.ok.m0 _⟩
    go_wp2_with first | (go_at_call 61; (with_reducible refine (rld4 mX _ (by omega) (by omega)).mono ?_); rw [hA.out, hk'.out]; rintro e w2 ⟨rfl, rfl⟩; simp only [if_true]) | (go_at_call 44; (with_reducible refine (rset mX d hd _ hv.out.1 hv.out.2).mono ?_); rintro e w3 ⟨rfl, m3, o3⟩; replace m3 := Aside0.mk m3; replace o3 := Aside0.mk o3)
    go_ret
    exact ⟨rfl, by rw [hM.out, hE.out, hk'.out, hS.out, hk'.out]; exact m3.out, fX.out.trans (o3.out.mono SR.g)⟩

set_option maxHeartbeats 8000000 in
set_option maxRecDepth 100000 in
theorem mov_l1 {w : World} {base g gm h : Nat} {v : Value} {s : Mc} (m : Aside0 (RW w base g gm h v s)) {d a b : Nat} {i : Int} (hd : d < 16) (ha : a < 16) (hp0 : 0 ≤ s.pc) (hp1 : s.pc ≤ 1048576) (i0 : -8388608 ≤ i) (i1 : i ≤ 8388607) :
    Calls Try.prog 45 #[PM g, insV 36 d a b i] w (RetR (SR g h v) g base gm h v (.bool true) (s.rmov 36 d a i) w) := by
  have ca := m.out.c_rg a ha
  have cd := m.out.c_rg d hd
  have c23 : w.cell? ⟨g, 23, none⟩ = some (.int .i64 s.pc) := (m.out.c_tl 0).trans rfl
  have hg := blk_lt m.out.blk
  have q1 : (a : Int) < 16 := by omega
  have q2 : (d : Int) < 16 := by omega
  have r1 := add1 g 7 a
  have r2 := add1 g 7 d
  obtain ⟨xa0, xa1⟩ := m.out.ok.r0 a
  obtain ⟨xd0, xd1⟩ := m.out.ok.r0 d
  have hA : Aside0 ((s.regs.getD a 0 + i) % 4294967296 = s.adr a i) := ⟨rfl⟩
  have hT : Aside0 (0 ≤ s.adr a i ∧ s.adr a i < 4294967296) := ⟨s.adr_bd a i⟩
  have hE : Aside0 (s.msE 36 d a i = ok1 (s.adr a i)) := ⟨rfl⟩
  have hM : Aside0 (s.rmov 36 d a i = if s.msE 36 d a i = true then s.msS 36 d a i else (s.msS 36 d a i).trapK 5) := ⟨rfl⟩
  have hS : Aside0 (s.msS 36 d a i = if ok1 (s.adr a i) then s.setR d (s.mem.getD (s.adr a i).toNat 0) else s) := ⟨rfl⟩
  generalize s.adr a i = t at *
  generalize hra : s.regs.getD a 0 = ra at *
  generalize hrd : s.regs.getD d 0 = rd at *
  generalize hpc : s.pc = pc at *
  replace hra := Aside0.mk hra
  replace hrd := Aside0.mk hrd
  replace hpc := Aside0.mk hpc
  have hr : Aside0 ((w.alloc (.cells #[.int .i64 36, .int .i64 (d : Int), .int .i64 (a : Int), .int .i64 (b : Int), .int .i32 i] 67)).heap[w.heap.size]? = some (.cells #[.int .i64 36, .int .i64 (d : Int), .int .i64 (a : Int), .int .i64 (b : Int), .int .i32 i] 67 (0, 0))) := ⟨blk_new w _⟩
  have hb : Aside0 (Below w.heap.size w (w.alloc (.cells #[.int .i64 36, .int .i64 (d : Int), .int .i64 (a : Int), .int .i64 (b : Int), .int .i32 i] 67))) := ⟨below_alloc (Below.refl _ _) _⟩
  go_enter Try.func45, Try.ntmps45
  go_upto_region 1 with (fail)
  have hgp : g ≠ w.heap.size := Nat.ne_of_lt hg
  have hpg : w.heap.size ≠ g := Ne.symm hgp
  generalize w.alloc (.cells #[.int .i64 36, .int .i64 (d : Int), .int .i64 (a : Int), .int .i64 (b : Int), .int .i32 i] 67) = W at *
  have mW : Aside0 (RW W base g gm h v s) := ⟨m.out.below hb.out⟩
  have fW : Aside0 (Fr (SR g h v) w W) := ⟨Fr.of_below hb.out _⟩
  have da := (Below.cell hb.out (p := ⟨g, 7 + a, none⟩) hg).trans ca
  have dd := (Below.cell hb.out (p := ⟨g, 7 + d, none⟩) hg).trans cd
  have d23 := (Below.cell hb.out (p := ⟨g, 23, none⟩) hg).trans c23
  have y0 := (blk_cell hr.out 0).trans (show _ = some (.int .i64 36) from rfl)
  have y1 := (blk_cell hr.out 1).trans (show _ = some (.int .i64 (d : Int)) from rfl)
  have y2 := (blk_cell hr.out 2).trans (show _ = some (.int .i64 (a : Int)) from rfl)
  have y4 := (blk_cell hr.out 4).trans (show _ = some (.int .i32 i) from rfl)
  clear ca cd c23
  go_quiet (fail)
  have mX : Aside0 (RW (W.drewN nq) base g gm h v s) := ⟨mW.out.below (bdn0 _ _)⟩
  have fX : Aside0 (Fr (SR g h v) w (W.drewN nq)) := ⟨fW.out.trans (Fr.of_below (bdn0 _ _) _)⟩
  have hX : Aside0 ((W.drewN nq).heap[w.heap.size]? = some (.cells #[.int .i64 36, .int .i64 (d : Int), .int .i64 (a : Int), .int .i64 (b : Int), .int .i32 i] 67 (0, 0))) := ⟨blk_drewN hr.out _⟩
  have dd2 : (W.drewN nq).cell? ⟨g, 7 + d, none⟩ = some (.int .u32 rd) := dd
  have k6 : (W.drewN nq).cell? ⟨g, 6, none⟩ = some (.pointer (some ⟨gm, 0, none⟩)) := (mX.out.c_hd 6 (by omega)).trans rfl
  generalize W.drewN nq = X at *
  clear da dd d23 y0 y1 y2 y4 mW fW hb hr
  have y0 := (blk_cell hX.out 0).trans (show _ = some (.int .i64 36) from rfl)
  have y1 := (blk_cell hX.out 1).trans (show _ = some (.int .i64 (d : Int)) from rfl)
  cases hk : ok1 t
  · have hk' := Aside0.mk hk
    clear hk
    go_wp2_with first | (go_at_call 62; (with_reducible refine (rld1 mX _ (by omega) (by omega)).mono ?_); rw [hA.out, hk'.out]; rintro e w2 ⟨rfl, rfl⟩; simp only [if_false, Bool.false_eq_true]) | (go_at_call 41; (with_reducible refine (rtrap mX 5).mono ?_); rintro e w3 ⟨rfl, m3, o3⟩; replace m3 := Aside0.mk m3; replace o3 := Aside0.mk o3)
    go_ret
    exact ⟨rfl, by rw [hM.out, hE.out, hk'.out, hS.out, hk'.out]; exact m3.out, fX.out.trans (o3.out.mono SR.g)⟩
  · have hk' := Aside0.mk hk
    clear hk
    have hv : Aside0 (0 ≤ s.mem.getD t.toNat 0 ∧ s.mem.getD t.toNat 0 ≤ 4294967295) := ⟨by have := m.out.ok.m0 t.toNat; omega⟩
    go_wp2_with first | (go_at_call 62; (with_reducible refine (rld1 mX _ (by omega) (by omega)).mono ?_); rw [hA.out, hk'.out]; rintro e w2 ⟨rfl, rfl⟩; simp only [if_true]; generalize hxv : s.mem.getD t.toNat 0 = xv; replace hxv := Aside0.mk hxv) | (go_at_call 44; (with_reducible refine (rset mX d hd _ (by rw [← hxv.out]; exact hv.out.1) (by rw [← hxv.out]; exact hv.out.2)).mono ?_); rintro e w3 ⟨rfl, m3, o3⟩; replace m3 := Aside0.mk m3; replace o3 := Aside0.mk o3)
    go_ret
    exact ⟨rfl, by rw [hM.out, hE.out, hk'.out, hS.out, hk'.out]; (try rw [← hxv.out] at m3); exact m3.out, fX.out.trans (o3.out.mono SR.g)⟩

set_option maxHeartbeats 8000000 in
set_option maxRecDepth 100000 in
theorem mov_s4 {w : World} {base g gm h : Nat} {v : Value} {s : Mc} (m : Aside0 (RW w base g gm h v s)) {d a b : Nat} {i : Int} (hd : d < 16) (ha : a < 16) (hp0 : 0 ≤ s.pc) (hp1 : s.pc ≤ 1048576) (i0 : -8388608 ≤ i) (i1 : i ≤ 8388607) :
    Calls Try.prog 45 #[PM g, insV 37 d a b i] w (RetR (SR g h v) g base gm h v (.bool true) (s.rmov 37 d a i) w) := by
  have ca := m.out.c_rg a ha
  have cd := m.out.c_rg d hd
  have c23 : w.cell? ⟨g, 23, none⟩ = some (.int .i64 s.pc) := (m.out.c_tl 0).trans rfl
  have hg := blk_lt m.out.blk
  have q1 : (a : Int) < 16 := by omega
  have q2 : (d : Int) < 16 := by omega
  have r1 := add1 g 7 a
  have r2 := add1 g 7 d
  obtain ⟨xa0, xa1⟩ := m.out.ok.r0 a
  obtain ⟨xd0, xd1⟩ := m.out.ok.r0 d
  have hA : Aside0 ((s.regs.getD a 0 + i) % 4294967296 = s.adr a i) := ⟨rfl⟩
  have hT : Aside0 (0 ≤ s.adr a i ∧ s.adr a i < 4294967296) := ⟨s.adr_bd a i⟩
  have hE : Aside0 (s.msE 37 d a i = ok4 (s.adr a i)) := ⟨rfl⟩
  have hM : Aside0 (s.rmov 37 d a i = if s.msE 37 d a i = true then s.msS 37 d a i else (s.msS 37 d a i).trapK 5) := ⟨rfl⟩
  have hS : Aside0 (s.msS 37 d a i = s.st4 (s.adr a i) (s.regs.getD d 0)) := ⟨rfl⟩
  generalize s.adr a i = t at *
  generalize hra : s.regs.getD a 0 = ra at *
  generalize hrd : s.regs.getD d 0 = rd at *
  generalize hpc : s.pc = pc at *
  replace hra := Aside0.mk hra
  replace hrd := Aside0.mk hrd
  replace hpc := Aside0.mk hpc
  have hr : Aside0 ((w.alloc (.cells #[.int .i64 37, .int .i64 (d : Int), .int .i64 (a : Int), .int .i64 (b : Int), .int .i32 i] 67)).heap[w.heap.size]? = some (.cells #[.int .i64 37, .int .i64 (d : Int), .int .i64 (a : Int), .int .i64 (b : Int), .int .i32 i] 67 (0, 0))) := ⟨blk_new w _⟩
  have hb : Aside0 (Below w.heap.size w (w.alloc (.cells #[.int .i64 37, .int .i64 (d : Int), .int .i64 (a : Int), .int .i64 (b : Int), .int .i32 i] 67))) := ⟨below_alloc (Below.refl _ _) _⟩
  go_enter Try.func45, Try.ntmps45
  go_upto_region 1 with (fail)
  have hgp : g ≠ w.heap.size := Nat.ne_of_lt hg
  have hpg : w.heap.size ≠ g := Ne.symm hgp
  generalize w.alloc (.cells #[.int .i64 37, .int .i64 (d : Int), .int .i64 (a : Int), .int .i64 (b : Int), .int .i32 i] 67) = W at *
  have mW : Aside0 (RW W base g gm h v s) := ⟨m.out.below hb.out⟩
  have fW : Aside0 (Fr (SR g h v) w W) := ⟨Fr.of_below hb.out _⟩
  have da := (Below.cell hb.out (p := ⟨g, 7 + a, none⟩) hg).trans ca
  have dd := (Below.cell hb.out (p := ⟨g, 7 + d, none⟩) hg).trans cd
  have d23 := (Below.cell hb.out (p := ⟨g, 23, none⟩) hg).trans c23
  have y0 := (blk_cell hr.out 0).trans (show _ = some (.int .i64 37) from rfl)
  have y1 := (blk_cell hr.out 1).trans (show _ = some (.int .i64 (d : Int)) from rfl)
  have y2 := (blk_cell hr.out 2).trans (show _ = some (.int .i64 (a : Int)) from rfl)
  have y4 := (blk_cell hr.out 4).trans (show _ = some (.int .i32 i) from rfl)
  clear ca cd c23
  go_quiet (fail)
  have mX : Aside0 (RW (W.drewN nq) base g gm h v s) := ⟨mW.out.below (bdn0 _ _)⟩
  have fX : Aside0 (Fr (SR g h v) w (W.drewN nq)) := ⟨fW.out.trans (Fr.of_below (bdn0 _ _) _)⟩
  have hX : Aside0 ((W.drewN nq).heap[w.heap.size]? = some (.cells #[.int .i64 37, .int .i64 (d : Int), .int .i64 (a : Int), .int .i64 (b : Int), .int .i32 i] 67 (0, 0))) := ⟨blk_drewN hr.out _⟩
  have dd2 : (W.drewN nq).cell? ⟨g, 7 + d, none⟩ = some (.int .u32 rd) := dd
  have k6 : (W.drewN nq).cell? ⟨g, 6, none⟩ = some (.pointer (some ⟨gm, 0, none⟩)) := (mX.out.c_hd 6 (by omega)).trans rfl
  generalize W.drewN nq = X at *
  clear da dd d23 y0 y1 y2 y4 mW fW hb hr
  have y0 := (blk_cell hX.out 0).trans (show _ = some (.int .i64 37) from rfl)
  have y1 := (blk_cell hX.out 1).trans (show _ = some (.int .i64 (d : Int)) from rfl)
  go_upto_region 14 with (fail)
  go_still_tail 12, (by kernel_rfl)
  change wpList _ _ _ _ _ X.drew
  have mY : Aside0 (RW X.drew base g gm h v s) := ⟨mX.out.below (below_drew (Below.refl _ _))⟩
  have fY : Aside0 (Fr (SR g h v) w X.drew) := ⟨fX.out.trans (Fr.of_below (below_drew (Below.refl _ _)) _)⟩
  clear dd2 k6 y0 y1 mX fX
  generalize X.drew = Y at *
  cases hk : ok4 t
  · have hk' := Aside0.mk hk
    clear hk
    go_wp2_with first | (go_at_call 63; (with_reducible refine (rst4 mY _ (by omega) (by omega) _ xd0 xd1).mono ?_); rw [hA.out, hk'.out]; rintro e w2 ⟨rfl, m2, o2⟩; replace m2 := Aside0.mk m2; replace o2 := Aside0.mk o2; simp only [if_false, Bool.false_eq_true]) | (go_at_call 41; (with_reducible refine (rtrap m2 5).mono ?_); rintro e w3 ⟨rfl, m3, o3⟩; replace m3 := Aside0.mk m3; replace o3 := Aside0.mk o3)
    go_ret
    exact ⟨rfl, by rw [hM.out, hE.out, hk'.out, hS.out]; exact m3.out, (fY.out.trans (o2.out.mono SR.h)).trans (o3.out.mono SR.g)⟩
  · have hk' := Aside0.mk hk
    clear hk
    go_wp2_with (go_at_call 63; (with_reducible refine (rst4 mY _ (by omega) (by omega) _ xd0 xd1).mono ?_); rw [hA.out, hk'.out]; rintro e w2 ⟨rfl, m2, o2⟩; replace m2 := Aside0.mk m2; replace o2 := Aside0.mk o2; simp only [if_true])
    go_ret
    exact ⟨rfl, by rw [hM.out, hE.out, hk'.out, hS.out]; exact m2.out, fY.out.trans (o2.out.mono SR.h)⟩

set_option maxHeartbeats 8000000 in
set_option maxRecDepth 100000 in
theorem mov_s1 {w : World} {base g gm h : Nat} {v : Value} {s : Mc} (m : Aside0 (RW w base g gm h v s)) {d a b : Nat} {i : Int} (hd : d < 16) (ha : a < 16) (hp0 : 0 ≤ s.pc) (hp1 : s.pc ≤ 1048576) (i0 : -8388608 ≤ i) (i1 : i ≤ 8388607) :
    Calls Try.prog 45 #[PM g, insV 38 d a b i] w (RetR (SR g h v) g base gm h v (.bool true) (s.rmov 38 d a i) w) := by
  have ca := m.out.c_rg a ha
  have cd := m.out.c_rg d hd
  have c23 : w.cell? ⟨g, 23, none⟩ = some (.int .i64 s.pc) := (m.out.c_tl 0).trans rfl
  have hg := blk_lt m.out.blk
  have q1 : (a : Int) < 16 := by omega
  have q2 : (d : Int) < 16 := by omega
  have r1 := add1 g 7 a
  have r2 := add1 g 7 d
  obtain ⟨xa0, xa1⟩ := m.out.ok.r0 a
  obtain ⟨xd0, xd1⟩ := m.out.ok.r0 d
  have hA : Aside0 ((s.regs.getD a 0 + i) % 4294967296 = s.adr a i) := ⟨rfl⟩
  have hT : Aside0 (0 ≤ s.adr a i ∧ s.adr a i < 4294967296) := ⟨s.adr_bd a i⟩
  have hE : Aside0 (s.msE 38 d a i = ok1 (s.adr a i)) := ⟨rfl⟩
  have hM : Aside0 (s.rmov 38 d a i = if s.msE 38 d a i = true then s.msS 38 d a i else (s.msS 38 d a i).trapK 5) := ⟨rfl⟩
  have hS : Aside0 (s.msS 38 d a i = s.st1 (s.adr a i) (s.regs.getD d 0)) := ⟨rfl⟩
  generalize s.adr a i = t at *
  generalize hra : s.regs.getD a 0 = ra at *
  generalize hrd : s.regs.getD d 0 = rd at *
  generalize hpc : s.pc = pc at *
  replace hra := Aside0.mk hra
  replace hrd := Aside0.mk hrd
  replace hpc := Aside0.mk hpc
  have hr : Aside0 ((w.alloc (.cells #[.int .i64 38, .int .i64 (d : Int), .int .i64 (a : Int), .int .i64 (b : Int), .int .i32 i] 67)).heap[w.heap.size]? = some (.cells #[.int .i64 38, .int .i64 (d : Int), .int .i64 (a : Int), .int .i64 (b : Int), .int .i32 i] 67 (0, 0))) := ⟨blk_new w _⟩
  have hb : Aside0 (Below w.heap.size w (w.alloc (.cells #[.int .i64 38, .int .i64 (d : Int), .int .i64 (a : Int), .int .i64 (b : Int), .int .i32 i] 67))) := ⟨below_alloc (Below.refl _ _) _⟩
  go_enter Try.func45, Try.ntmps45
  go_upto_region 1 with (fail)
  have hgp : g ≠ w.heap.size := Nat.ne_of_lt hg
  have hpg : w.heap.size ≠ g := Ne.symm hgp
  generalize w.alloc (.cells #[.int .i64 38, .int .i64 (d : Int), .int .i64 (a : Int), .int .i64 (b : Int), .int .i32 i] 67) = W at *
  have mW : Aside0 (RW W base g gm h v s) := ⟨m.out.below hb.out⟩
  have fW : Aside0 (Fr (SR g h v) w W) := ⟨Fr.of_below hb.out _⟩
  have da := (Below.cell hb.out (p := ⟨g, 7 + a, none⟩) hg).trans ca
  have dd := (Below.cell hb.out (p := ⟨g, 7 + d, none⟩) hg).trans cd
  have d23 := (Below.cell hb.out (p := ⟨g, 23, none⟩) hg).trans c23
  have y0 := (blk_cell hr.out 0).trans (show _ = some (.int .i64 38) from rfl)
  have y1 := (blk_cell hr.out 1).trans (show _ = some (.int .i64 (d : Int)) from rfl)
  have y2 := (blk_cell hr.out 2).trans (show _ = some (.int .i64 (a : Int)) from rfl)
  have y4 := (blk_cell hr.out 4).trans (show _ = some (.int .i32 i) from rfl)
  clear ca cd c23
  go_quiet (fail)
  have mX : Aside0 (RW (W.drewN nq) base g gm h v s) := ⟨mW.out.below (bdn0 _ _)⟩
  have fX : Aside0 (Fr (SR g h v) w (W.drewN nq)) := ⟨fW.out.trans (Fr.of_below (bdn0 _ _) _)⟩
  have hX : Aside0 ((W.drewN nq).heap[w.heap.size]? = some (.cells #[.int .i64 38, .int .i64 (d : Int), .int .i64 (a : Int), .int .i64 (b : Int), .int .i32 i] 67 (0, 0))) := ⟨blk_drewN hr.out _⟩
  have dd2 : (W.drewN nq).cell? ⟨g, 7 + d, none⟩ = some (.int .u32 rd) := dd
  have k6 : (W.drewN nq).cell? ⟨g, 6, none⟩ = some (.pointer (some ⟨gm, 0, none⟩)) := (mX.out.c_hd 6 (by omega)).trans rfl
  generalize W.drewN nq = X at *
  clear da dd d23 y0 y1 y2 y4 mW fW hb hr
  have y0 := (blk_cell hX.out 0).trans (show _ = some (.int .i64 38) from rfl)
  have y1 := (blk_cell hX.out 1).trans (show _ = some (.int .i64 (d : Int)) from rfl)
  go_upto_region 16 with (fail)
  go_still_tail 12, (by kernel_rfl)
  change wpList _ _ _ _ _ X.drew
  have mY : Aside0 (RW X.drew base g gm h v s) := ⟨mX.out.below (below_drew (Below.refl _ _))⟩
  have fY : Aside0 (Fr (SR g h v) w X.drew) := ⟨fX.out.trans (Fr.of_below (below_drew (Below.refl _ _)) _)⟩
  clear dd2 k6 y0 y1 mX fX
  generalize X.drew = Y at *
  cases hk : ok1 t
  · have hk' := Aside0.mk hk
    clear hk
    go_wp2_with first | (go_at_call 64; (with_reducible refine (rst1 mY _ (by omega) (by omega) _ xd0 xd1).mono ?_); rw [hA.out, hk'.out]; rintro e w2 ⟨rfl, m2, o2⟩; replace m2 := Aside0.mk m2; replace o2 := Aside0.mk o2; simp only [if_false, Bool.false_eq_true]) | (go_at_call 41; (with_reducible refine (rtrap m2 5).mono ?_); rintro e w3 ⟨rfl, m3, o3⟩; replace m3 := Aside0.mk m3; replace o3 := Aside0.mk o3)
    go_ret
    exact ⟨rfl, by rw [hM.out, hE.out, hk'.out, hS.out]; exact m3.out, (fY.out.trans (o2.out.mono SR.h)).trans (o3.out.mono SR.g)⟩
  · have hk' := Aside0.mk hk
    clear hk
    go_wp2_with (go_at_call 64; (with_reducible refine (rst1 mY _ (by omega) (by omega) _ xd0 xd1).mono ?_); rw [hA.out, hk'.out]; rintro e w2 ⟨rfl, m2, o2⟩; replace m2 := Aside0.mk m2; replace o2 := Aside0.mk o2; simp only [if_true])
    go_ret
    exact ⟨rfl, by rw [hM.out, hE.out, hk'.out, hS.out]; exact m2.out, fY.out.trans (o2.out.mono SR.h)⟩

set_option maxHeartbeats 8000000 in
set_option maxRecDepth 100000 in
theorem mov_no {w : World} {base g gm h : Nat} {v : Value} {s : Mc} (m : Aside0 (RW w base g gm h v s)) {d a b : Nat} {i : Int} {op : Int} (ho : op < 35 ∨ 38 < op) (hd : d < 16) (ha : a < 16) (hp0 : 0 ≤ s.pc) (hp1 : s.pc ≤ 1048576) (i0 : -8388608 ≤ i) (i1 : i ≤ 8388607) :
    Calls Try.prog 45 #[PM g, insV op d a b i] w (RetR (SR g h v) g base gm h v (.bool false) s w) := by
  have ca := m.out.c_rg a ha
  have cd := m.out.c_rg d hd
  have c23 : w.cell? ⟨g, 23, none⟩ = some (.int .i64 s.pc) := (m.out.c_tl 0).trans rfl
  have hg := blk_lt m.out.blk
  have q1 : (a : Int) < 16 := by omega
  have q2 : (d : Int) < 16 := by omega
  have r1 := add1 g 7 a
  have r2 := add1 g 7 d
  obtain ⟨xa0, xa1⟩ := m.out.ok.r0 a
  obtain ⟨xd0, xd1⟩ := m.out.ok.r0 d
  have n35 : (op == 35) = false := by rw [beq_eq_false_iff_ne]; omega
  have n36 : (op == 36) = false := by rw [beq_eq_false_iff_ne]; omega
  have n37 : (op == 37) = false := by rw [beq_eq_false_iff_ne]; omega
  have n38 : (op == 38) = false := by rw [beq_eq_false_iff_ne]; omega
  generalize hra : s.regs.getD a 0 = ra at *
  generalize hrd : s.regs.getD d 0 = rd at *
  generalize hpc : s.pc = pc at *
  replace hra := Aside0.mk hra
  replace hrd := Aside0.mk hrd
  replace hpc := Aside0.mk hpc
  have hr : Aside0 ((w.alloc (.cells #[.int .i64 op, .int .i64 (d : Int), .int .i64 (a : Int), .int .i64 (b : Int), .int .i32 i] 67)).heap[w.heap.size]? = some (.cells #[.int .i64 op, .int .i64 (d : Int), .int .i64 (a : Int), .int .i64 (b : Int), .int .i32 i] 67 (0, 0))) := ⟨blk_new w _⟩
  have hb : Aside0 (Below w.heap.size w (w.alloc (.cells #[.int .i64 op, .int .i64 (d : Int), .int .i64 (a : Int), .int .i64 (b : Int), .int .i32 i] 67))) := ⟨below_alloc (Below.refl _ _) _⟩
  go_enter Try.func45, Try.ntmps45
  go_upto_region 1 with (fail)
  have hgp : g ≠ w.heap.size := Nat.ne_of_lt hg
  have hpg : w.heap.size ≠ g := Ne.symm hgp
  generalize w.alloc (.cells #[.int .i64 op, .int .i64 (d : Int), .int .i64 (a : Int), .int .i64 (b : Int), .int .i32 i] 67) = W at *
  have mW : Aside0 (RW W base g gm h v s) := ⟨m.out.below hb.out⟩
  have fW : Aside0 (Fr (SR g h v) w W) := ⟨Fr.of_below hb.out _⟩
  have da := (Below.cell hb.out (p := ⟨g, 7 + a, none⟩) hg).trans ca
  have dd := (Below.cell hb.out (p := ⟨g, 7 + d, none⟩) hg).trans cd
  have d23 := (Below.cell hb.out (p := ⟨g, 23, none⟩) hg).trans c23
  have y0 := (blk_cell hr.out 0).trans (show _ = some (.int .i64 op) from rfl)
  have y1 := (blk_cell hr.out 1).trans (show _ = some (.int .i64 (d : Int)) from rfl)
  have y2 := (blk_cell hr.out 2).trans (show _ = some (.int .i64 (a : Int)) from rfl)
  have y4 := (blk_cell hr.out 4).trans (show _ = some (.int .i32 i) from rfl)
  clear ca cd c23
  go_quiet (fail)
  have mX : Aside0 (RW (W.drewN nq) base g gm h v s) := ⟨mW.out.below (bdn0 _ _)⟩
  have fX : Aside0 (Fr (SR g h v) w (W.drewN nq)) := ⟨fW.out.trans (Fr.of_below (bdn0 _ _) _)⟩
  go_wp2_with fail
  go_ret
  exact ⟨rfl, mX.out, fX.out⟩

end Go.Proofs.Ytbhkfdjofopfkaa.MemA
