/- The program's machine: memoryStep (printed by mkF.py of session 4). -/
import Derived.Test.YtbhkfdjofopfkaaMaE
namespace Go.Proofs.Ytbhkfdjofopfkaa.MemA
open Go.RowKit Go.Proofs.YtbhkfdjofopfkaaW.PrintWords Go.Proofs.YtbhkfdjofopfkaaW.PrintLast
set_option linter.unusedVariables false
set_option linter.unusedSimpArgs false
/-- Where a load or a store goes. -/
def Mc.adr (s : Mc) (a : Nat) (i : Int) : Int := (s.regs.getD a 0 + i) % 4294967296
theorem Mc.adr_bd (s : Mc) (a : Nat) (i : Int) : 0 ≤ s.adr a i ∧ s.adr a i < 4294967296 := by unfold Mc.adr; omega
/-- What memoryStep makes of a machine, and whether it may. -/
def Mc.msE (s : Mc) (op : Int) (d a : Nat) (i : Int) : Bool := if op = 35 ∨ op = 37 then ok4 (s.adr a i) else ok1 (s.adr a i)
def Mc.msS (s : Mc) (op : Int) (d a : Nat) (i : Int) : Mc :=
  if op = 35 then (if ok4 (s.adr a i) then s.setR d (w4 s.mem (s.adr a i).toNat) else s)
  else if op = 36 then (if ok1 (s.adr a i) then s.setR d (s.mem.getD (s.adr a i).toNat 0) else s)
  else if op = 37 then s.st4 (s.adr a i) (s.regs.getD d 0)
  else s.st1 (s.adr a i) (s.regs.getD d 0)
/-- A Bool as an error. -/
def er (b : Bool) : Int := if b then 0 else 1
def gh (g h : Nat) (k : Nat) : Prop := k = g ∨ k = h
set_option maxHeartbeats 4000000 in
set_option maxRecDepth 100000 in
theorem ms_l4 {w : World} {base g gm h : Nat} {v : Value} {s : Mc} (m : Aside0 (MW w base g gm h v s)) (d a : Nat) (b i : Int) (hd : d < 16) (ha : a < 16) :
    Calls Try.prog 35 #[PM g, insV 35 d a b i] w (RetF (gh g h) g base gm h v (.int .i64 (er (s.msE 35 d a i))) (s.msS 35 d a i) w) := by
  have ca := m.out.c_rg a ha
  have cd := m.out.c_rg d hd
  have c5 : w.cell? ⟨g, 5, none⟩ = some (.pointer (some ⟨gm, 0, none⟩)) := (m.out.c_hd 5 (by omega)).trans rfl
  have hg := blk_lt m.out.blk
  have q1 : (a : Int) < 16 := by omega
  have q2 : (d : Int) < 16 := by omega
  have p0 := add1 g 6 a
  have p1 := add1 g 6 d
  obtain ⟨xd0, xd1⟩ := m.out.ok.r0 d
  have hE : Aside0 (s.msE 35 d a i = ok4 (s.adr a i)) := ⟨rfl⟩
  have hS : Aside0 (s.msS 35 d a i = if ok4 (s.adr a i) then s.setR d (w4 s.mem (s.adr a i).toNat) else s) := ⟨rfl⟩
  have hT : Aside0 (0 ≤ s.adr a i ∧ s.adr a i < 4294967296) := ⟨s.adr_bd a i⟩
  have hA : Aside0 ((s.regs.getD a 0 + i) % 4294967296 = s.adr a i) := ⟨rfl⟩
  generalize s.regs.getD a 0 = ra at *
  generalize hxd : s.regs.getD d 0 = rd at *
  replace hxd := Aside0.mk hxd
  generalize s.adr a i = t at *
  have hr : Aside0 ((w.alloc (.cells #[.int .i64 35, .int .i64 (d : Int), .int .i64 (a : Int), .int .i64 b, .int .i32 i] 67)).heap[w.heap.size]? = some (.cells #[.int .i64 35, .int .i64 (d : Int), .int .i64 (a : Int), .int .i64 b, .int .i32 i] 67 (0, 0))) := ⟨blk_new w _⟩
  have hb : Aside0 (Below w.heap.size w (w.alloc (.cells #[.int .i64 35, .int .i64 (d : Int), .int .i64 (a : Int), .int .i64 b, .int .i32 i] 67))) := ⟨below_alloc (Below.refl _ _) _⟩
  go_enter Try.func35, Try.ntmps35
  go_upto_region 1 with (fail)
  generalize w.alloc (.cells #[.int .i64 35, .int .i64 (d : Int), .int .i64 (a : Int), .int .i64 b, .int .i32 i] 67) = W at *
  have da := (Below.cell hb.out (p := ⟨g, 6 + a, none⟩) hg).trans ca
  have dd := (Below.cell hb.out (p := ⟨g, 6 + d, none⟩) hg).trans cd
  have d5 := (Below.cell hb.out (p := ⟨g, 5, none⟩) hg).trans c5
  have hs2 : w.heap.size ≤ W.heap.size := hb.out.size
  have hgW : g < W.heap.size := by omega
  have mW : Aside0 (MW W base g gm h v s) := ⟨m.out.below hb.out⟩
  clear ca cd c5
  have x0 := (blk_cell hr.out 0).trans (show _ = some (.int .i64 35) from rfl)
  have x1 := (blk_cell hr.out 1).trans (show _ = some (.int .i64 (d : Int)) from rfl)
  have x2 := (blk_cell hr.out 2).trans (show _ = some (.int .i64 (a : Int)) from rfl)
  have x4 := (blk_cell hr.out 4).trans (show _ = some (.int .i32 i) from rfl)
  go_quiet (fail)
  have mW2 : Aside0 (MW (W.drewN nq) base g gm h v s) := ⟨mW.out.below (bdn0 _ _)⟩
  have f2 : Aside0 (Fr (gh g h) w (W.drewN nq)) := ⟨(Fr.of_below hb.out _).trans (Fr.of_below (bdn0 _ _) _)⟩
  cases hk : ok4 t
  · have hk' := Aside0.mk hk
    clear hk
    go_wp2_with (go_at_call 50; (with_reducible refine (ld4 mW2 _ (by omega) (by omega)).mono ?_); rw [hA.out, hk'.out]; rintro e w2 ⟨rfl, n2, rfl⟩; simp only [if_false, Bool.false_eq_true])
    go_ret
    exact ⟨by rw [hE.out, hk'.out]; rfl, by rw [hS.out, hk'.out]; exact mW.out.below (bdn0 _ _), (Fr.of_below hb.out _).trans (Fr.of_below (bdn0 _ _) _)⟩
  · have hk' := Aside0.mk hk
    clear hk
    have hv : Aside0 (0 ≤ w4 s.mem t.toNat ∧ w4 s.mem t.toNat ≤ 4294967295) := ⟨w4_bd m.out.ok.m0 _⟩
    have hS2 : Aside0 (s.msS 35 d a i = s.setR d (w4 s.mem t.toNat)) := ⟨by rw [hS.out, hk'.out]; rfl⟩
    go_wp2_with first | (go_at_call 50; (with_reducible refine (ld4 mW2 _ (by omega) (by omega)).mono ?_); rw [hA.out, hk'.out]; rintro e w2 ⟨rfl, n2, rfl⟩; simp only [if_true]) | (go_at_call 34; (with_reducible refine (set (Aside0.mk (mW.out.below (bdn0 _ _))) d hd _ hv.out.1 hv.out.2).mono ?_); rintro e w3 ⟨rfl, m3, o3⟩; replace m3 := Aside0.mk m3; replace o3 := Aside0.mk o3)
    go_ret
    exact ⟨by rw [hE.out, hk'.out]; rfl, by rw [hS2.out]; exact m3.out, ((Fr.of_below hb.out _).trans (Fr.of_below (bdn0 _ _) _)).trans ((Fr.of_only o3.out).mono (fun k hk => Or.inl hk))⟩
set_option maxHeartbeats 4000000 in
set_option maxRecDepth 100000 in
theorem ms_l1 {w : World} {base g gm h : Nat} {v : Value} {s : Mc} (m : Aside0 (MW w base g gm h v s)) (d a : Nat) (b i : Int) (hd : d < 16) (ha : a < 16) :
    Calls Try.prog 35 #[PM g, insV 36 d a b i] w (RetF (gh g h) g base gm h v (.int .i64 (er (s.msE 36 d a i))) (s.msS 36 d a i) w) := by
  have ca := m.out.c_rg a ha
  have cd := m.out.c_rg d hd
  have c5 : w.cell? ⟨g, 5, none⟩ = some (.pointer (some ⟨gm, 0, none⟩)) := (m.out.c_hd 5 (by omega)).trans rfl
  have hg := blk_lt m.out.blk
  have q1 : (a : Int) < 16 := by omega
  have q2 : (d : Int) < 16 := by omega
  have p0 := add1 g 6 a
  have p1 := add1 g 6 d
  obtain ⟨xd0, xd1⟩ := m.out.ok.r0 d
  have hE : Aside0 (s.msE 36 d a i = ok1 (s.adr a i)) := ⟨rfl⟩
  have hS : Aside0 (s.msS 36 d a i = if ok1 (s.adr a i) then s.setR d (s.mem.getD (s.adr a i).toNat 0) else s) := ⟨rfl⟩
  have hT : Aside0 (0 ≤ s.adr a i ∧ s.adr a i < 4294967296) := ⟨s.adr_bd a i⟩
  have hA : Aside0 ((s.regs.getD a 0 + i) % 4294967296 = s.adr a i) := ⟨rfl⟩
  generalize s.regs.getD a 0 = ra at *
  generalize hxd : s.regs.getD d 0 = rd at *
  replace hxd := Aside0.mk hxd
  generalize s.adr a i = t at *
  have hr : Aside0 ((w.alloc (.cells #[.int .i64 36, .int .i64 (d : Int), .int .i64 (a : Int), .int .i64 b, .int .i32 i] 67)).heap[w.heap.size]? = some (.cells #[.int .i64 36, .int .i64 (d : Int), .int .i64 (a : Int), .int .i64 b, .int .i32 i] 67 (0, 0))) := ⟨blk_new w _⟩
  have hb : Aside0 (Below w.heap.size w (w.alloc (.cells #[.int .i64 36, .int .i64 (d : Int), .int .i64 (a : Int), .int .i64 b, .int .i32 i] 67))) := ⟨below_alloc (Below.refl _ _) _⟩
  go_enter Try.func35, Try.ntmps35
  go_upto_region 1 with (fail)
  generalize w.alloc (.cells #[.int .i64 36, .int .i64 (d : Int), .int .i64 (a : Int), .int .i64 b, .int .i32 i] 67) = W at *
  have da := (Below.cell hb.out (p := ⟨g, 6 + a, none⟩) hg).trans ca
  have dd := (Below.cell hb.out (p := ⟨g, 6 + d, none⟩) hg).trans cd
  have d5 := (Below.cell hb.out (p := ⟨g, 5, none⟩) hg).trans c5
  have hs2 : w.heap.size ≤ W.heap.size := hb.out.size
  have hgW : g < W.heap.size := by omega
  have mW : Aside0 (MW W base g gm h v s) := ⟨m.out.below hb.out⟩
  clear ca cd c5
  have x0 := (blk_cell hr.out 0).trans (show _ = some (.int .i64 36) from rfl)
  have x1 := (blk_cell hr.out 1).trans (show _ = some (.int .i64 (d : Int)) from rfl)
  have x2 := (blk_cell hr.out 2).trans (show _ = some (.int .i64 (a : Int)) from rfl)
  have x4 := (blk_cell hr.out 4).trans (show _ = some (.int .i32 i) from rfl)
  go_quiet (fail)
  have mW2 : Aside0 (MW (W.drewN nq) base g gm h v s) := ⟨mW.out.below (bdn0 _ _)⟩
  have f2 : Aside0 (Fr (gh g h) w (W.drewN nq)) := ⟨(Fr.of_below hb.out _).trans (Fr.of_below (bdn0 _ _) _)⟩
  cases hk : ok1 t
  · have hk' := Aside0.mk hk
    clear hk
    go_wp2_with (go_at_call 51; (with_reducible refine (ld1 mW2 _ (by omega) (by omega)).mono ?_); rw [hA.out, hk'.out]; rintro e w2 ⟨rfl, rfl⟩; simp only [if_false, Bool.false_eq_true])
    go_ret
    exact ⟨by rw [hE.out, hk'.out]; rfl, by rw [hS.out, hk'.out]; exact mW2.out, f2.out⟩
  · have hk' := Aside0.mk hk
    clear hk
    have hv : Aside0 (0 ≤ s.mem.getD t.toNat 0 ∧ s.mem.getD t.toNat 0 ≤ 4294967295) := ⟨by have := m.out.ok.m0 t.toNat; omega⟩
    have hS2 : Aside0 (s.msS 36 d a i = s.setR d (s.mem.getD t.toNat 0)) := ⟨by rw [hS.out, hk'.out]; rfl⟩
    go_wp2_with first | (go_at_call 51; (with_reducible refine (ld1 mW2 _ (by omega) (by omega)).mono ?_); rw [hA.out, hk'.out]; rintro e w2 ⟨rfl, rfl⟩; simp only [if_true]; generalize hxv : s.mem.getD t.toNat 0 = xv; replace hxv := Aside0.mk hxv) | (go_at_call 34; (with_reducible refine (set (Aside0.mk mW2.out) d hd _ (by rw [← hxv.out]; exact hv.out.1) (by rw [← hxv.out]; exact hv.out.2)).mono ?_); rintro e w3 ⟨rfl, m3, o3⟩; replace m3 := Aside0.mk m3; replace o3 := Aside0.mk o3)
    go_ret
    exact ⟨by rw [hE.out, hk'.out]; rfl, by rw [hS2.out, hxv.out]; exact m3.out, f2.out.trans ((Fr.of_only o3.out).mono (fun k hk => Or.inl hk))⟩
set_option maxHeartbeats 4000000 in
set_option maxRecDepth 100000 in
theorem ms_s4 {w : World} {base g gm h : Nat} {v : Value} {s : Mc} (m : Aside0 (MW w base g gm h v s)) (d a : Nat) (b i : Int) (hd : d < 16) (ha : a < 16) :
    Calls Try.prog 35 #[PM g, insV 37 d a b i] w (RetF (gh g h) g base gm h v (.int .i64 (er (s.msE 37 d a i))) (s.msS 37 d a i) w) := by
  have ca := m.out.c_rg a ha
  have cd := m.out.c_rg d hd
  have c5 : w.cell? ⟨g, 5, none⟩ = some (.pointer (some ⟨gm, 0, none⟩)) := (m.out.c_hd 5 (by omega)).trans rfl
  have hg := blk_lt m.out.blk
  have q1 : (a : Int) < 16 := by omega
  have q2 : (d : Int) < 16 := by omega
  have p0 := add1 g 6 a
  have p1 := add1 g 6 d
  obtain ⟨xd0, xd1⟩ := m.out.ok.r0 d
  have hE : Aside0 (s.msE 37 d a i = ok4 (s.adr a i)) := ⟨rfl⟩
  have hS : Aside0 (s.msS 37 d a i = s.st4 (s.adr a i) (s.regs.getD d 0)) := ⟨rfl⟩
  have hT : Aside0 (0 ≤ s.adr a i ∧ s.adr a i < 4294967296) := ⟨s.adr_bd a i⟩
  have hA : Aside0 ((s.regs.getD a 0 + i) % 4294967296 = s.adr a i) := ⟨rfl⟩
  generalize s.regs.getD a 0 = ra at *
  generalize hxd : s.regs.getD d 0 = rd at *
  replace hxd := Aside0.mk hxd
  generalize s.adr a i = t at *
  have hr : Aside0 ((w.alloc (.cells #[.int .i64 37, .int .i64 (d : Int), .int .i64 (a : Int), .int .i64 b, .int .i32 i] 67)).heap[w.heap.size]? = some (.cells #[.int .i64 37, .int .i64 (d : Int), .int .i64 (a : Int), .int .i64 b, .int .i32 i] 67 (0, 0))) := ⟨blk_new w _⟩
  have hb : Aside0 (Below w.heap.size w (w.alloc (.cells #[.int .i64 37, .int .i64 (d : Int), .int .i64 (a : Int), .int .i64 b, .int .i32 i] 67))) := ⟨below_alloc (Below.refl _ _) _⟩
  go_enter Try.func35, Try.ntmps35
  go_upto_region 1 with (fail)
  generalize w.alloc (.cells #[.int .i64 37, .int .i64 (d : Int), .int .i64 (a : Int), .int .i64 b, .int .i32 i] 67) = W at *
  have da := (Below.cell hb.out (p := ⟨g, 6 + a, none⟩) hg).trans ca
  have dd := (Below.cell hb.out (p := ⟨g, 6 + d, none⟩) hg).trans cd
  have d5 := (Below.cell hb.out (p := ⟨g, 5, none⟩) hg).trans c5
  have hs2 : w.heap.size ≤ W.heap.size := hb.out.size
  have hgW : g < W.heap.size := by omega
  have mW : Aside0 (MW W base g gm h v s) := ⟨m.out.below hb.out⟩
  clear ca cd c5
  have x0 := (blk_cell hr.out 0).trans (show _ = some (.int .i64 37) from rfl)
  have x1 := (blk_cell hr.out 1).trans (show _ = some (.int .i64 (d : Int)) from rfl)
  have x2 := (blk_cell hr.out 2).trans (show _ = some (.int .i64 (a : Int)) from rfl)
  have x4 := (blk_cell hr.out 4).trans (show _ = some (.int .i32 i) from rfl)
  go_quiet (fail)
  have mW2 : Aside0 (MW (W.drewN nq) base g gm h v s) := ⟨mW.out.below (bdn0 _ _)⟩
  have f2 : Aside0 (Fr (gh g h) w (W.drewN nq)) := ⟨(Fr.of_below hb.out _).trans (Fr.of_below (bdn0 _ _) _)⟩
  go_upto_region 11 with (fail)
  have hD := (Below.cell (bdn0 W nq) (p := ⟨g, 5, none⟩) hgW).trans d5
  have dd2 := (Below.cell (bdn0 W nq) (p := ⟨g, 6 + d, none⟩) hgW).trans dd
  have y1 := (Below.cell (bdn0 W nq) (p := ⟨w.heap.size, 1, none⟩) (blk_lt hr.out)).trans x1
  generalize W.drewN nq = W2 at *
  clear x0 x1 x2 x4 dd da d5
  go_still_tail 12, (by kernel_rfl)
  change wpList _ _ _ _ _ W2.drew
  have mW3 : Aside0 (MW W2.drew base g gm h v s) := ⟨mW2.out.below (below_drew (Below.refl _ _))⟩
  have f3 : Aside0 (Fr (gh g h) w W2.drew) := ⟨f2.out.trans (Fr.of_below (below_drew (Below.refl _ _)) _)⟩
  generalize W2.drew = W3 at *
  go_wp2_with (go_at_call 52; (with_reducible refine (st4 mW3 _ (by omega) (by omega) _ xd0 xd1).mono ?_); rw [hA.out]; rintro e w2 ⟨rfl, m3, o3⟩; replace m3 := Aside0.mk m3; replace o3 := Aside0.mk o3; generalize hev : (if ok4 t = true then (0 : Int) else 1) = ev; replace hev := Aside0.mk hev)
  go_ret
  exact ⟨by rw [hE.out]; unfold er; rw [hev.out]; rfl, by rw [hS.out]; exact m3.out, f3.out.trans (o3.out.mono (fun k hk => Or.inr hk))⟩
set_option maxHeartbeats 4000000 in
set_option maxRecDepth 100000 in
theorem ms_s1 {w : World} {base g gm h : Nat} {v : Value} {s : Mc} (m : Aside0 (MW w base g gm h v s)) (d a : Nat) (b i : Int) (hd : d < 16) (ha : a < 16) :
    Calls Try.prog 35 #[PM g, insV 38 d a b i] w (RetF (gh g h) g base gm h v (.int .i64 (er (s.msE 38 d a i))) (s.msS 38 d a i) w) := by
  have ca := m.out.c_rg a ha
  have cd := m.out.c_rg d hd
  have c5 : w.cell? ⟨g, 5, none⟩ = some (.pointer (some ⟨gm, 0, none⟩)) := (m.out.c_hd 5 (by omega)).trans rfl
  have hg := blk_lt m.out.blk
  have q1 : (a : Int) < 16 := by omega
  have q2 : (d : Int) < 16 := by omega
  have p0 := add1 g 6 a
  have p1 := add1 g 6 d
  obtain ⟨xd0, xd1⟩ := m.out.ok.r0 d
  have hE : Aside0 (s.msE 38 d a i = ok1 (s.adr a i)) := ⟨rfl⟩
  have hS : Aside0 (s.msS 38 d a i = s.st1 (s.adr a i) (s.regs.getD d 0)) := ⟨rfl⟩
  have hT : Aside0 (0 ≤ s.adr a i ∧ s.adr a i < 4294967296) := ⟨s.adr_bd a i⟩
  have hA : Aside0 ((s.regs.getD a 0 + i) % 4294967296 = s.adr a i) := ⟨rfl⟩
  generalize s.regs.getD a 0 = ra at *
  generalize hxd : s.regs.getD d 0 = rd at *
  replace hxd := Aside0.mk hxd
  generalize s.adr a i = t at *
  have hr : Aside0 ((w.alloc (.cells #[.int .i64 38, .int .i64 (d : Int), .int .i64 (a : Int), .int .i64 b, .int .i32 i] 67)).heap[w.heap.size]? = some (.cells #[.int .i64 38, .int .i64 (d : Int), .int .i64 (a : Int), .int .i64 b, .int .i32 i] 67 (0, 0))) := ⟨blk_new w _⟩
  have hb : Aside0 (Below w.heap.size w (w.alloc (.cells #[.int .i64 38, .int .i64 (d : Int), .int .i64 (a : Int), .int .i64 b, .int .i32 i] 67))) := ⟨below_alloc (Below.refl _ _) _⟩
  go_enter Try.func35, Try.ntmps35
  go_upto_region 1 with (fail)
  generalize w.alloc (.cells #[.int .i64 38, .int .i64 (d : Int), .int .i64 (a : Int), .int .i64 b, .int .i32 i] 67) = W at *
  have da := (Below.cell hb.out (p := ⟨g, 6 + a, none⟩) hg).trans ca
  have dd := (Below.cell hb.out (p := ⟨g, 6 + d, none⟩) hg).trans cd
  have d5 := (Below.cell hb.out (p := ⟨g, 5, none⟩) hg).trans c5
  have hs2 : w.heap.size ≤ W.heap.size := hb.out.size
  have hgW : g < W.heap.size := by omega
  have mW : Aside0 (MW W base g gm h v s) := ⟨m.out.below hb.out⟩
  clear ca cd c5
  have x0 := (blk_cell hr.out 0).trans (show _ = some (.int .i64 38) from rfl)
  have x1 := (blk_cell hr.out 1).trans (show _ = some (.int .i64 (d : Int)) from rfl)
  have x2 := (blk_cell hr.out 2).trans (show _ = some (.int .i64 (a : Int)) from rfl)
  have x4 := (blk_cell hr.out 4).trans (show _ = some (.int .i32 i) from rfl)
  go_quiet (fail)
  have mW2 : Aside0 (MW (W.drewN nq) base g gm h v s) := ⟨mW.out.below (bdn0 _ _)⟩
  have f2 : Aside0 (Fr (gh g h) w (W.drewN nq)) := ⟨(Fr.of_below hb.out _).trans (Fr.of_below (bdn0 _ _) _)⟩
  go_upto_region 5 with (fail)
  have hD := (Below.cell (bdn0 W nq) (p := ⟨g, 5, none⟩) hgW).trans d5
  have dd2 := (Below.cell (bdn0 W nq) (p := ⟨g, 6 + d, none⟩) hgW).trans dd
  have y1 := (Below.cell (bdn0 W nq) (p := ⟨w.heap.size, 1, none⟩) (blk_lt hr.out)).trans x1
  generalize W.drewN nq = W2 at *
  clear x0 x1 x2 x4 dd da d5
  go_still_tail 12, (by kernel_rfl)
  change wpList _ _ _ _ _ W2.drew
  have mW3 : Aside0 (MW W2.drew base g gm h v s) := ⟨mW2.out.below (below_drew (Below.refl _ _))⟩
  have f3 : Aside0 (Fr (gh g h) w W2.drew) := ⟨f2.out.trans (Fr.of_below (below_drew (Below.refl _ _)) _)⟩
  generalize W2.drew = W3 at *
  go_wp2_with (go_at_call 53; (with_reducible refine (st1 mW3 _ (by omega) (by omega) _ xd0 xd1).mono ?_); rw [hA.out]; rintro e w2 ⟨rfl, m3, o3⟩; replace m3 := Aside0.mk m3; replace o3 := Aside0.mk o3; generalize hev : (if ok1 t = true then (0 : Int) else 1) = ev; replace hev := Aside0.mk hev)
  go_ret
  exact ⟨by rw [hE.out]; unfold er; rw [hev.out]; rfl, by rw [hS.out]; exact m3.out, f3.out.trans (o3.out.mono (fun k hk => Or.inr hk))⟩
end Go.Proofs.Ytbhkfdjofopfkaa.MemA
