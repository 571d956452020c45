/- The reference's machine: Step (printed by mkS.py of session 4). -/
import Derived.Test.YtbhkfdjofopfkaaRaD
import Derived.Test.YtbhkfdjofopfkaaRaE
namespace Go.Proofs.Ytbhkfdjofopfkaa.MemA
open Go.RowKit Go.Proofs.YtbhkfdjofopfkaaW.PrintWords Go.Proofs.YtbhkfdjofopfkaaW.PrintLast
set_option linter.unusedVariables false
set_option linter.unusedSimpArgs false
def Mc.rdo (s : Mc) (op : Int) (d a : Nat) (i : Int) : Mc :=
  if op = 32 then s.setR d ((s.regs.getD a 0 + i) % 4294967296)
  else if op = 33 then s.setR d (i % 4294967296)
  else if op = 34 then s.setR d (bits .or .u32 (bits .and .u32 (s.regs.getD d 0) 65535) (i % 4294967296 * 65536 % 4294967296))
  else if op = 42 then s.setR 14 (s.pc + 4)
  else if op = 44 then s.getS.setR d s.getV
  else if op = 45 then s.put (s.regs.getD a 0 % 256)
  else if op = 46 then s.trapK i
  else if op = 47 then s.halt (wrap32 (s.regs.getD a 0))
  else s
theorem doesC {w : World} {base g gm h : Nat} {v : Value} {s : Mc} (m : Aside0 (RW w base g gm h v s)) {d a b : Nat} {i op : Int} (ho : 32 ≤ op ∧ op ≤ 47 ∧ (op < 35 ∨ 38 < op)) (hbs : base ≤ w.heap.size) (hol : s.out.length < 1099511627776) (hd : d < 16) (ha : a < 16) (hp0 : 0 ≤ s.pc) (hp1 : s.pc ≤ 1048576) (i0 : -8388608 ≤ i) (i1 : i ≤ 8388607) :
    Calls Try.prog 46 #[PM g, insV op d a b i] w (DoP g base gm h v (s.rdo op d a i) w) := by
  have : op = 32 ∨ op = 33 ∨ op = 34 ∨ op = 42 ∨ op = 44 ∨ op = 45 ∨ op = 46 ∨ op = 47 ∨ (op = 39 ∨ op = 40 ∨ op = 41 ∨ op = 43) := by omega
  rcases this with rfl | rfl | rfl | rfl | rfl | rfl | rfl | rfl | h9
  · exact do_32 m hd ha hp0 hp1 i0 i1
  · exact do_33 m hd ha hp0 hp1 i0 i1
  · exact do_34 m hd ha hp0 hp1 i0 i1
  · exact do_42 m hd ha hp0 hp1 i0 i1
  · by_cases hu : s.used < s.inp.size
    · exact do_44y m hu hd ha hp0 hp1 i0 i1
    · exact do_44n m hu hd ha hp0 hp1 i0 i1
  · exact do_45 m hbs hol hd ha hp0 hp1 i0 i1
  · exact do_46 m hd ha hp0 hp1 i0 i1
  · exact do_47 m hd ha hp0 hp1 i0 i1
  · have e : s.rdo op d a i = s := by unfold Mc.rdo; rw [if_neg (by omega), if_neg (by omega), if_neg (by omega), if_neg (by omega), if_neg (by omega), if_neg (by omega), if_neg (by omega), if_neg (by omega)]
    rw [e]
    exact do_no m h9 hd ha hp0 hp1 i0 i1
theorem movC {w : World} {base g gm h : Nat} {v : Value} {s : Mc} (m : Aside0 (RW w base g gm h v s)) {d a b : Nat} {i op : Int} (ho : 35 ≤ op ∧ op ≤ 38) (hd : d < 16) (ha : a < 16) (hp0 : 0 ≤ s.pc) (hp1 : s.pc ≤ 1048576) (i0 : -8388608 ≤ i) (i1 : i ≤ 8388607) :
    Calls Try.prog 45 #[PM g, insV op d a b i] w (RetR (SR g h v) g base gm h v (.bool true) (s.rmov op d a i) w) := by
  have : op = 35 ∨ op = 36 ∨ op = 37 ∨ op = 38 := by omega
  rcases this with rfl | rfl | rfl | rfl
  · exact mov_l4 m hd ha hp0 hp1 i0 i1
  · exact mov_l1 m hd ha hp0 hp1 i0 i1
  · exact mov_s4 m hd ha hp0 hp1 i0 i1
  · exact mov_s1 m hd ha hp0 hp1 i0 i1
/-- What an operation of two words makes of a machine. -/
def Mc.ralu (s : Mc) (op : Int) (d a b : Nat) (n : Int) : Mc := if (alu op (s.regs.getD a 0) (s.regs.getD b 0)).2 = 0 then (s.setR d (alu op (s.regs.getD a 0) (s.regs.getD b 0)).1).jump n else s.trapK (alu op (s.regs.getD a 0) (s.regs.getD b 0)).2
/-- What behind an instruction's own work is done with the place. -/
def Mc.fin (t : Mc) (n : Int) : Mc := if t.ended = true then t else t.jump n
def StepR (g base gm h : Nat) (v : Value) (r : Bool) (s : Mc) (w : World) (e : Ending) (w' : World) : Prop := e = .returned (.bool r) ∧ ∃ v', RW w' base g gm h v' s ∧ OwnOk v v' w ∧ Fr (SR g h v) w w'
theorem goes_bd {s : Mc} (k : s.Ok) (op : Int) (a : Nat) (i : Int) (hp0 : 0 ≤ s.pc) (hp1 : s.pc ≤ 1048576) (i0 : -8388608 ≤ i) (i1 : i ≤ 8388607) : -17179869184 ≤ s.goes op a i ∧ s.goes op a i ≤ 17179869184 := by
  have := k.r0 a
  unfold Mc.goes
  repeat' split
  all_goals omega

set_option maxHeartbeats 8000000 in
set_option maxRecDepth 100000 in
theorem rst_mov {w : World} {base g gm h : Nat} {v : Value} {s : Mc} (m : Aside0 (RW w base g gm h v s)) {d a b : Nat} {i op : Int} (ho : 35 ≤ op ∧ op ≤ 38) (he : s.ended = false) (hx : s.fet = some ⟨op, d, a, b, i⟩) (hk : (⟨op, d, a, b, i⟩ : In).Ok) (hbs : base ≤ w.heap.size) (hol : s.out.length < 1099511627776) :
    Calls Try.prog 23 #[PM g] w (StepR g base gm h v true ((s.rmov op d a i).fin (s.goes op a i)) w) := by
  have hfe := Aside0.mk (rfetch_some m hx)
  obtain ⟨o1, o2⟩ := Mc.fet_on hx
  obtain ⟨p0, p1, p2, p3⟩ := off_out o1 m.out.ok.c4
  have hcl := m.out.ok.cl
  have hp1 : s.pc ≤ 1048576 := by omega
  clear o1 o2 p1 p2 p3 hcl hx
  have hd : d < 16 := hk.d
  have ha : a < 16 := hk.a
  have hbb : b < 16 := hk.b
  obtain ⟨i0, i1⟩ : -8388608 ≤ i ∧ i ≤ 8388607 := hk.i
  have hgb := Aside0.mk (goes_bd m.out.ok op a i p0 hp1 i0 i1)
  have hgo := fun W m' => Aside0.mk (goesC (w := W) (base := base) (g := g) (gm := gm) (h := h) (v := v) (s := s) m' (d := d) (a := a) (b := b) (i := i) (op := op) hd ha p0 hp1 i0 i1)
  have hmo := fun W m' => Aside0.mk (movC (w := W) (base := base) (g := g) (gm := gm) (h := h) (v := v) (s := s) m' (d := d) (a := a) (b := b) (i := i) (op := op) ho hd ha p0 hp1 i0 i1)
  have c24 : w.cell? ⟨g, 24, none⟩ = some (.bool false) := (m.out.c_tl 1).trans (by show some (Value.bool s.ended) = _; rw [he])
  have hg := blk_lt m.out.blk
  have hle : decide (op ≤ 19) = false := by simp; omega
  replace he := Aside0.mk he
  generalize hn : s.goes op a i = n at *
  replace hn := Aside0.mk hn
  clear p0 hp1 hk
  go_enter Try.func23, Try.ntmps23
  go_upto_region 7 with (go_at_call 40; (with_reducible refine hfe.out.mono ?_); rintro e w1 ⟨rfl, hb1⟩; replace hb1 := Aside0.mk hb1)
  have hr : Aside0 ((w1.alloc (.cells #[.int .i64 op, .int .i64 (d : Int), .int .i64 (a : Int), .int .i64 (b : Int), .int .i32 i] 67)).heap[w1.heap.size]? = some (.cells #[.int .i64 op, .int .i64 (d : Int), .int .i64 (a : Int), .int .i64 (b : Int), .int .i32 i] 67 (0, 0))) := ⟨blk_new w1 _⟩
  have hb : Aside0 (Below w.heap.size w (w1.alloc (.cells #[.int .i64 op, .int .i64 (d : Int), .int .i64 (a : Int), .int .i64 (b : Int), .int .i32 i] 67))) := ⟨below_alloc hb1.out _⟩
  have hwp : w.heap.size ≤ w1.heap.size := hb1.out.size
  have hgp : g ≠ w1.heap.size := by omega
  have hpg : w1.heap.size ≠ g := Ne.symm hgp
  generalize w1.alloc (.cells #[.int .i64 op, .int .i64 (d : Int), .int .i64 (a : Int), .int .i64 (b : Int), .int .i32 i] 67) = W at *
  generalize w1.heap.size = pb at *
  clear hb1
  have mW : Aside0 (RW W base g gm h v s) := ⟨m.out.below hb.out⟩
  have y0 := (blk_cell hr.out 0).trans (show _ = some (.int .i64 op) from rfl)
  have y1 := (blk_cell hr.out 1).trans (show _ = some (.int .i64 (d : Int)) from rfl)
  have y2 := (blk_cell hr.out 2).trans (show _ = some (.int .i64 (a : Int)) from rfl)
  have y3 := (blk_cell hr.out 3).trans (show _ = some (.int .i64 (b : Int)) from rfl)
  have y4 := (blk_cell hr.out 4).trans (show _ = some (.int .i32 i) from rfl)
  go_upto_region 8 with (go_at_call 42; (with_reducible refine (hgo _ mW).out.mono ?_); rintro e X ⟨rfl, hb2⟩; replace hb2 := Aside0.mk hb2)
  have mX : Aside0 (RW X base g gm h v s) := ⟨mW.out.below hb2.out⟩
  have fX : Aside0 (Fr (SR g h v) w X) := ⟨(Fr.of_below hb.out _).trans (Fr.of_below hb2.out _)⟩
  have hrX : Aside0 (X.heap[pb]? = some (.cells #[.int .i64 op, .int .i64 (d : Int), .int .i64 (a : Int), .int .i64 (b : Int), .int .i32 i] 67 (0, 0))) := ⟨blk_below hr.out hb2.out⟩
  have hsX : w.heap.size ≤ X.heap.size := fX.out.kept.1
  clear y0 y1 y2 y3 y4 hb hb2 hr mW c24
  have y0 := (blk_cell hrX.out 0).trans (show _ = some (.int .i64 op) from rfl)
  have y1 := (blk_cell hrX.out 1).trans (show _ = some (.int .i64 (d : Int)) from rfl)
  have y2 := (blk_cell hrX.out 2).trans (show _ = some (.int .i64 (a : Int)) from rfl)
  have y3 := (blk_cell hrX.out 3).trans (show _ = some (.int .i64 (b : Int)) from rfl)
  have y4 := (blk_cell hrX.out 4).trans (show _ = some (.int .i32 i) from rfl)
  generalize s.rmov op d a i = t at *
  cases hE : t.ended
  · have QQ := Aside0.mk hE
    clear hE
    go_wp2_with (go_at_call 45; (with_reducible refine (hmo _ mX).out.mono ?_); rintro e w3 ⟨rfl, m3, o3⟩; have k24 : w3.cell? ⟨g, 24, none⟩ = some (.bool false) := (m3.c_tl 1).trans (by show some (Value.bool (Mc.ended _)) = _; exact congrArg some (congrArg Value.bool QQ.out)); have k23 : w3.cell? ⟨g, 23, none⟩ = some (.int .i64 (Mc.pc _)) := (m3.c_tl 0).trans rfl; have z23 := m3.fz 23; replace m3 := Aside0.mk m3; replace o3 := Aside0.mk o3)
    go_ret
    exact ⟨rfl, v, by rw [show t.fin n = t.jump n from by unfold Mc.fin; rw [QQ.out]; rfl]; exact m3.out.jump _ hgb.out, .inl rfl, (fX.out.trans o3.out).setCell (p := ⟨g, 23, none⟩) (.inl rfl) _⟩
  · have QQ := Aside0.mk hE
    clear hE
    go_wp2_with (go_at_call 45; (with_reducible refine (hmo _ mX).out.mono ?_); rintro e w3 ⟨rfl, m3, o3⟩; have k24 : w3.cell? ⟨g, 24, none⟩ = some (.bool true) := (m3.c_tl 1).trans (by show some (Value.bool (Mc.ended _)) = _; exact congrArg some (congrArg Value.bool QQ.out)); have k23 : w3.cell? ⟨g, 23, none⟩ = some (.int .i64 (Mc.pc _)) := (m3.c_tl 0).trans rfl; have z23 := m3.fz 23; replace m3 := Aside0.mk m3; replace o3 := Aside0.mk o3)
    go_ret
    exact ⟨rfl, v, by rw [show t.fin n = t from by unfold Mc.fin; rw [QQ.out]; rfl]; exact m3.out, .inl rfl, fX.out.trans o3.out⟩

set_option maxHeartbeats 8000000 in
set_option maxRecDepth 100000 in
theorem rst_do {w : World} {base g gm h : Nat} {v : Value} {s : Mc} (m : Aside0 (RW w base g gm h v s)) {d a b : Nat} {i op : Int} (ho : 32 ≤ op ∧ op ≤ 47 ∧ (op < 35 ∨ 38 < op)) (he : s.ended = false) (hx : s.fet = some ⟨op, d, a, b, i⟩) (hk : (⟨op, d, a, b, i⟩ : In).Ok) (hbs : base ≤ w.heap.size) (hol : s.out.length < 1099511627776) :
    Calls Try.prog 23 #[PM g] w (StepR g base gm h v true ((s.rdo op d a i).fin (s.goes op a i)) w) := by
  have hfe := Aside0.mk (rfetch_some m hx)
  obtain ⟨o1, o2⟩ := Mc.fet_on hx
  obtain ⟨p0, p1, p2, p3⟩ := off_out o1 m.out.ok.c4
  have hcl := m.out.ok.cl
  have hp1 : s.pc ≤ 1048576 := by omega
  clear o1 o2 p1 p2 p3 hcl hx
  have hd : d < 16 := hk.d
  have ha : a < 16 := hk.a
  have hbb : b < 16 := hk.b
  obtain ⟨i0, i1⟩ : -8388608 ≤ i ∧ i ≤ 8388607 := hk.i
  have hgb := Aside0.mk (goes_bd m.out.ok op a i p0 hp1 i0 i1)
  have hgo := fun W m' => Aside0.mk (goesC (w := W) (base := base) (g := g) (gm := gm) (h := h) (v := v) (s := s) m' (d := d) (a := a) (b := b) (i := i) (op := op) hd ha p0 hp1 i0 i1)
  have hmo := fun W m' => Aside0.mk (mov_no (w := W) (base := base) (g := g) (gm := gm) (h := h) (v := v) (s := s) m' (d := d) (a := a) (b := b) (i := i) (op := op) (by omega) hd ha p0 hp1 i0 i1)
  have hdo := fun W m' hbs' => Aside0.mk (doesC (w := W) (base := base) (g := g) (gm := gm) (h := h) (v := v) (s := s) m' (d := d) (a := a) (b := b) (i := i) (op := op) ho hbs' hol hd ha p0 hp1 i0 i1)
  have c24 : w.cell? ⟨g, 24, none⟩ = some (.bool false) := (m.out.c_tl 1).trans (by show some (Value.bool s.ended) = _; rw [he])
  have hg := blk_lt m.out.blk
  have hle : decide (op ≤ 19) = false := by simp; omega
  replace he := Aside0.mk he
  generalize hn : s.goes op a i = n at *
  replace hn := Aside0.mk hn
  clear p0 hp1 hk
  go_enter Try.func23, Try.ntmps23
  go_upto_region 7 with (go_at_call 40; (with_reducible refine hfe.out.mono ?_); rintro e w1 ⟨rfl, hb1⟩; replace hb1 := Aside0.mk hb1)
  have hr : Aside0 ((w1.alloc (.cells #[.int .i64 op, .int .i64 (d : Int), .int .i64 (a : Int), .int .i64 (b : Int), .int .i32 i] 67)).heap[w1.heap.size]? = some (.cells #[.int .i64 op, .int .i64 (d : Int), .int .i64 (a : Int), .int .i64 (b : Int), .int .i32 i] 67 (0, 0))) := ⟨blk_new w1 _⟩
  have hb : Aside0 (Below w.heap.size w (w1.alloc (.cells #[.int .i64 op, .int .i64 (d : Int), .int .i64 (a : Int), .int .i64 (b : Int), .int .i32 i] 67))) := ⟨below_alloc hb1.out _⟩
  have hwp : w.heap.size ≤ w1.heap.size := hb1.out.size
  have hgp : g ≠ w1.heap.size := by omega
  have hpg : w1.heap.size ≠ g := Ne.symm hgp
  generalize w1.alloc (.cells #[.int .i64 op, .int .i64 (d : Int), .int .i64 (a : Int), .int .i64 (b : Int), .int .i32 i] 67) = W at *
  generalize w1.heap.size = pb at *
  clear hb1
  have mW : Aside0 (RW W base g gm h v s) := ⟨m.out.below hb.out⟩
  have y0 := (blk_cell hr.out 0).trans (show _ = some (.int .i64 op) from rfl)
  have y1 := (blk_cell hr.out 1).trans (show _ = some (.int .i64 (d : Int)) from rfl)
  have y2 := (blk_cell hr.out 2).trans (show _ = some (.int .i64 (a : Int)) from rfl)
  have y3 := (blk_cell hr.out 3).trans (show _ = some (.int .i64 (b : Int)) from rfl)
  have y4 := (blk_cell hr.out 4).trans (show _ = some (.int .i32 i) from rfl)
  go_upto_region 8 with (go_at_call 42; (with_reducible refine (hgo _ mW).out.mono ?_); rintro e X ⟨rfl, hb2⟩; replace hb2 := Aside0.mk hb2)
  have mX : Aside0 (RW X base g gm h v s) := ⟨mW.out.below hb2.out⟩
  have fX : Aside0 (Fr (SR g h v) w X) := ⟨(Fr.of_below hb.out _).trans (Fr.of_below hb2.out _)⟩
  have hrX : Aside0 (X.heap[pb]? = some (.cells #[.int .i64 op, .int .i64 (d : Int), .int .i64 (a : Int), .int .i64 (b : Int), .int .i32 i] 67 (0, 0))) := ⟨blk_below hr.out hb2.out⟩
  have hsX : w.heap.size ≤ X.heap.size := fX.out.kept.1
  clear y0 y1 y2 y3 y4 hb hb2 hr mW c24
  have y0 := (blk_cell hrX.out 0).trans (show _ = some (.int .i64 op) from rfl)
  have y1 := (blk_cell hrX.out 1).trans (show _ = some (.int .i64 (d : Int)) from rfl)
  have y2 := (blk_cell hrX.out 2).trans (show _ = some (.int .i64 (a : Int)) from rfl)
  have y3 := (blk_cell hrX.out 3).trans (show _ = some (.int .i64 (b : Int)) from rfl)
  have y4 := (blk_cell hrX.out 4).trans (show _ = some (.int .i32 i) from rfl)
  have hnp : ∀ _ : Unit, ¬ SR g h v pb := fun _ hs => by
    rcases hs with e | e | e
    · exact hgp e.symm
    · exact blk_ne mX.out.mem.row hrX.out (by decide) e.symm
    · exact Kd.R_ne mX.out.out hrX.out (by decide) e.symm
  generalize s.rdo op d a i = t at *
  cases hE : t.ended
  · have QQ := Aside0.mk hE
    clear hE
    go_wp2_with first | (go_at_call 45; (with_reducible refine (hmo _ mX).out.mono ?_); rintro e w2 ⟨rfl, m2, o2⟩; have hs2 : base ≤ w2.heap.size := Nat.le_trans (Nat.le_trans hbs hsX) o2.kept.1; have z := Fr.blk o2 hrX.out (hnp ()); have y0b := (blk_cell z 0).trans (show _ = some (.int .i64 op) from rfl); have y1b := (blk_cell z 1).trans (show _ = some (.int .i64 (d : Int)) from rfl); have y2b := (blk_cell z 2).trans (show _ = some (.int .i64 (a : Int)) from rfl); have y3b := (blk_cell z 3).trans (show _ = some (.int .i64 (b : Int)) from rfl); have y4b := (blk_cell z 4).trans (show _ = some (.int .i32 i) from rfl); clear z; replace m2 := Aside0.mk m2; replace o2 := Aside0.mk o2) | (go_at_call 46; (with_reducible refine (hdo _ m2 hs2).out.mono ?_); rintro e w3 ⟨rfl, v3, m3, own3, o3⟩; have k24 : w3.cell? ⟨g, 24, none⟩ = some (.bool false) := (m3.c_tl 1).trans (by show some (Value.bool (Mc.ended _)) = _; exact congrArg some (congrArg Value.bool QQ.out)); have k23 : w3.cell? ⟨g, 23, none⟩ = some (.int .i64 (Mc.pc _)) := (m3.c_tl 0).trans rfl; have z23 := m3.fz 23; replace m3 := Aside0.mk m3; replace o3 := Aside0.mk o3; replace own3 := Aside0.mk own3)
    go_ret
    exact ⟨rfl, v3, by rw [show t.fin n = t.jump n from by unfold Mc.fin; rw [QQ.out]; rfl]; exact m3.out.jump _ hgb.out, own3.out.imp id (fun ⟨b, e1, e2⟩ => ⟨b, e1, Nat.le_trans hsX (Nat.le_trans o2.out.kept.1 e2)⟩), ((fX.out.trans o2.out).trans o3.out).setCell (p := ⟨g, 23, none⟩) (.inl rfl) _⟩
  · have QQ := Aside0.mk hE
    clear hE
    go_wp2_with first | (go_at_call 45; (with_reducible refine (hmo _ mX).out.mono ?_); rintro e w2 ⟨rfl, m2, o2⟩; have hs2 : base ≤ w2.heap.size := Nat.le_trans (Nat.le_trans hbs hsX) o2.kept.1; have z := Fr.blk o2 hrX.out (hnp ()); have y0b := (blk_cell z 0).trans (show _ = some (.int .i64 op) from rfl); have y1b := (blk_cell z 1).trans (show _ = some (.int .i64 (d : Int)) from rfl); have y2b := (blk_cell z 2).trans (show _ = some (.int .i64 (a : Int)) from rfl); have y3b := (blk_cell z 3).trans (show _ = some (.int .i64 (b : Int)) from rfl); have y4b := (blk_cell z 4).trans (show _ = some (.int .i32 i) from rfl); clear z; replace m2 := Aside0.mk m2; replace o2 := Aside0.mk o2) | (go_at_call 46; (with_reducible refine (hdo _ m2 hs2).out.mono ?_); rintro e w3 ⟨rfl, v3, m3, own3, o3⟩; have k24 : w3.cell? ⟨g, 24, none⟩ = some (.bool true) := (m3.c_tl 1).trans (by show some (Value.bool (Mc.ended _)) = _; exact congrArg some (congrArg Value.bool QQ.out)); have k23 : w3.cell? ⟨g, 23, none⟩ = some (.int .i64 (Mc.pc _)) := (m3.c_tl 0).trans rfl; have z23 := m3.fz 23; replace m3 := Aside0.mk m3; replace o3 := Aside0.mk o3; replace own3 := Aside0.mk own3)
    go_ret
    exact ⟨rfl, v3, by rw [show t.fin n = t from by unfold Mc.fin; rw [QQ.out]; rfl]; exact m3.out, own3.out.imp id (fun ⟨b, e1, e2⟩ => ⟨b, e1, Nat.le_trans hsX (Nat.le_trans o2.out.kept.1 e2)⟩), (fX.out.trans o2.out).trans o3.out⟩

set_option maxHeartbeats 8000000 in
set_option maxRecDepth 100000 in
theorem rst_alu {w : World} {base g gm h : Nat} {v : Value} {s : Mc} (m : Aside0 (RW w base g gm h v s)) {d a b : Nat} {i op : Int} (ho : 1 ≤ op ∧ op ≤ 19) (he : s.ended = false) (hx : s.fet = some ⟨op, d, a, b, i⟩) (hk : (⟨op, d, a, b, i⟩ : In).Ok) (hbs : base ≤ w.heap.size) (hol : s.out.length < 1099511627776) :
    Calls Try.prog 23 #[PM g] w (StepR g base gm h v true (s.ralu op d a b (s.goes op a i)) w) := by
  have hfe := Aside0.mk (rfetch_some m hx)
  obtain ⟨o1, o2⟩ := Mc.fet_on hx
  obtain ⟨p0, p1, p2, p3⟩ := off_out o1 m.out.ok.c4
  have hcl := m.out.ok.cl
  have hp1 : s.pc ≤ 1048576 := by omega
  clear o1 o2 p1 p2 p3 hcl hx
  have hd : d < 16 := hk.d
  have ha : a < 16 := hk.a
  have hbb : b < 16 := hk.b
  obtain ⟨i0, i1⟩ : -8388608 ≤ i ∧ i ≤ 8388607 := hk.i
  have hgb := Aside0.mk (goes_bd m.out.ok op a i p0 hp1 i0 i1)
  have hgo := fun W m' => Aside0.mk (goesC (w := W) (base := base) (g := g) (gm := gm) (h := h) (v := v) (s := s) m' (d := d) (a := a) (b := b) (i := i) (op := op) hd ha p0 hp1 i0 i1)
  obtain ⟨xa0, xa1⟩ := m.out.ok.r0 a
  obtain ⟨xb0, xb1⟩ := m.out.ok.r0 b
  have hT := Aside0.mk (aluR op (s.regs.getD a 0) _ xb0 xb1)
  have hB := Aside0.mk (alu_bd op _ _ xa0 xa1 xb0 xb1)
  have q1 : (a : Int) < 16 := by omega
  have q3 : (b : Int) < 16 := by omega
  have r1 := add1 g 7 a
  have r3 := add1 g 7 b
  generalize hra : s.regs.getD a 0 = ra at *
  generalize hrb : s.regs.getD b 0 = rb at *
  replace hra := Aside0.mk hra
  replace hrb := Aside0.mk hrb
  have hXX : ∀ n, Aside0 (s.ralu op d a b n = if (alu op ra rb).2 = 0 then (s.setR d (alu op ra rb).1).jump n else s.trapK (alu op ra rb).2) := fun n => ⟨by unfold Mc.ralu; rw [hra.out, hrb.out]⟩
  generalize (alu op ra rb).1 = x at *
  generalize (alu op ra rb).2 = t at *
  have c24 : w.cell? ⟨g, 24, none⟩ = some (.bool false) := (m.out.c_tl 1).trans (by show some (Value.bool s.ended) = _; rw [he])
  have hg := blk_lt m.out.blk
  have hle : decide (op ≤ 19) = true := by simp; omega
  replace he := Aside0.mk he
  generalize hn : s.goes op a i = n at *
  replace hn := Aside0.mk hn
  clear p0 hp1 hk
  go_enter Try.func23, Try.ntmps23
  go_upto_region 7 with (go_at_call 40; (with_reducible refine hfe.out.mono ?_); rintro e w1 ⟨rfl, hb1⟩; replace hb1 := Aside0.mk hb1)
  have hr : Aside0 ((w1.alloc (.cells #[.int .i64 op, .int .i64 (d : Int), .int .i64 (a : Int), .int .i64 (b : Int), .int .i32 i] 67)).heap[w1.heap.size]? = some (.cells #[.int .i64 op, .int .i64 (d : Int), .int .i64 (a : Int), .int .i64 (b : Int), .int .i32 i] 67 (0, 0))) := ⟨blk_new w1 _⟩
  have hb : Aside0 (Below w.heap.size w (w1.alloc (.cells #[.int .i64 op, .int .i64 (d : Int), .int .i64 (a : Int), .int .i64 (b : Int), .int .i32 i] 67))) := ⟨below_alloc hb1.out _⟩
  have hwp : w.heap.size ≤ w1.heap.size := hb1.out.size
  have hgp : g ≠ w1.heap.size := by omega
  have hpg : w1.heap.size ≠ g := Ne.symm hgp
  generalize w1.alloc (.cells #[.int .i64 op, .int .i64 (d : Int), .int .i64 (a : Int), .int .i64 (b : Int), .int .i32 i] 67) = W at *
  generalize w1.heap.size = pb at *
  clear hb1
  have mW : Aside0 (RW W base g gm h v s) := ⟨m.out.below hb.out⟩
  have y0 := (blk_cell hr.out 0).trans (show _ = some (.int .i64 op) from rfl)
  have y1 := (blk_cell hr.out 1).trans (show _ = some (.int .i64 (d : Int)) from rfl)
  have y2 := (blk_cell hr.out 2).trans (show _ = some (.int .i64 (a : Int)) from rfl)
  have y3 := (blk_cell hr.out 3).trans (show _ = some (.int .i64 (b : Int)) from rfl)
  have y4 := (blk_cell hr.out 4).trans (show _ = some (.int .i32 i) from rfl)
  go_upto_region 8 with (go_at_call 42; (with_reducible refine (hgo _ mW).out.mono ?_); rintro e X ⟨rfl, hb2⟩; replace hb2 := Aside0.mk hb2)
  have mX : Aside0 (RW X base g gm h v s) := ⟨mW.out.below hb2.out⟩
  have fX : Aside0 (Fr (SR g h v) w X) := ⟨(Fr.of_below hb.out _).trans (Fr.of_below hb2.out _)⟩
  have hrX : Aside0 (X.heap[pb]? = some (.cells #[.int .i64 op, .int .i64 (d : Int), .int .i64 (a : Int), .int .i64 (b : Int), .int .i32 i] 67 (0, 0))) := ⟨blk_below hr.out hb2.out⟩
  have hsX : w.heap.size ≤ X.heap.size := fX.out.kept.1
  clear y0 y1 y2 y3 y4 hb hb2 hr mW c24
  have y0 := (blk_cell hrX.out 0).trans (show _ = some (.int .i64 op) from rfl)
  have y1 := (blk_cell hrX.out 1).trans (show _ = some (.int .i64 (d : Int)) from rfl)
  have y2 := (blk_cell hrX.out 2).trans (show _ = some (.int .i64 (a : Int)) from rfl)
  have y3 := (blk_cell hrX.out 3).trans (show _ = some (.int .i64 (b : Int)) from rfl)
  have y4 := (blk_cell hrX.out 4).trans (show _ = some (.int .i32 i) from rfl)
  have ea : X.cell? ⟨g, 7 + a, none⟩ = some (.int .u32 ra) := (mX.out.c_rg a ha).trans (by rw [hra.out])
  have eb : X.cell? ⟨g, 7 + b, none⟩ = some (.int .u32 rb) := (mX.out.c_rg b hbb).trans (by rw [hrb.out])
  go_upto_region 9 with (fail)
  go_quiet ((go_at_call 43; exact Calls.quiet_of (hT.out _)))
  have mY : Aside0 (RW (X.drewN nq) base g gm h v s) := ⟨mX.out.below (bdn0 _ _)⟩
  have fY : Aside0 (Fr (SR g h v) w (X.drewN nq)) := ⟨fX.out.trans (Fr.of_below (bdn0 _ _) _)⟩
  have x1 : (X.drewN nq).cell? ⟨pb, 1, none⟩ = some (.int .i64 (d : Int)) := y1
  generalize X.drewN nq = Y at *
  clear y0 y1 y2 y3 y4 ea eb mX fX
  by_cases hz : t = 0
  · subst hz
    have QQ : Aside0 ((s.setR d x).ended = false) := ⟨by unfold Mc.setR; split <;> exact he.out⟩
    go_wp2_with (go_at_call 44; (with_reducible refine (rset mY d hd _ hB.out.1 hB.out.2).mono ?_); rintro e w3 ⟨rfl, m3, o3⟩; have k24 : w3.cell? ⟨g, 24, none⟩ = some (.bool false) := (m3.c_tl 1).trans (by show some (Value.bool (Mc.ended _)) = _; exact congrArg some (congrArg Value.bool QQ.out)); have k23 : w3.cell? ⟨g, 23, none⟩ = some (.int .i64 (Mc.pc _)) := (m3.c_tl 0).trans rfl; have z23 := m3.fz 23; replace m3 := Aside0.mk m3; replace o3 := Aside0.mk o3)
    go_ret
    exact ⟨rfl, v, by rw [(hXX _).out, if_pos trivial]; exact m3.out.jump _ hgb.out, .inl rfl, (fY.out.trans (o3.out.mono SR.g)).setCell (p := ⟨g, 23, none⟩) (.inl rfl) _⟩
  · have hz1 : (t != 0) = true := by simpa using hz
    have hz2 := Aside0.mk hz
    clear hz
    have QQ : Aside0 ((s.trapK t).ended = true) := ⟨rfl⟩
    go_wp2_with (go_at_call 41; (with_reducible refine (rtrap mY t).mono ?_); rintro e w3 ⟨rfl, m3, o3⟩; have k24 : w3.cell? ⟨g, 24, none⟩ = some (.bool true) := (m3.c_tl 1).trans (by show some (Value.bool (Mc.ended _)) = _; exact congrArg some (congrArg Value.bool QQ.out)); have k23 : w3.cell? ⟨g, 23, none⟩ = some (.int .i64 (Mc.pc _)) := (m3.c_tl 0).trans rfl; have z23 := m3.fz 23; replace m3 := Aside0.mk m3; replace o3 := Aside0.mk o3)
    go_ret
    exact ⟨rfl, v, by rw [(hXX _).out, if_neg hz2.out]; exact m3.out, .inl rfl, fY.out.trans (o3.out.mono SR.g)⟩

end Go.Proofs.Ytbhkfdjofopfkaa.MemA
