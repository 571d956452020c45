/- The program's machine: set, trap, get. -/
import Derived.Test.YtbhkfdjofopfkaaMaA
namespace Go.Proofs.Ytbhkfdjofopfkaa.MemA
open Go.RowKit Go.Proofs.YtbhkfdjofopfkaaW.PrintWords Go.Proofs.YtbhkfdjofopfkaaW.PrintLast
set_option linter.unusedVariables false
set_option linter.unusedSimpArgs false
theorem bdn0 (w : World) (n : Nat) : Below w.heap.size w (w.drewN n) := ⟨rfl, rfl, rfl, Nat.le_refl _, fun _ _ => rfl⟩
/-- Only the block g has been turned. -/
structure Only (g : Nat) (w w' : World) : Prop where
  os : w'.os = w.os
  tape : w'.tape = w.tape
  output : w'.output = w.output
  size : w.heap.size ≤ w'.heap.size
  block : ∀ k, k < w.heap.size → k ≠ g → w'.heap[k]? = w.heap[k]?
theorem Only.refl (g : Nat) (w : World) : Only g w w := ⟨rfl, rfl, rfl, Nat.le_refl _, fun _ _ _ => rfl⟩
theorem Only.trans {g : Nat} {a b c : World} (h : Only g a b) (k : Only g b c) : Only g a c := ⟨k.os.trans h.os, k.tape.trans h.tape, k.output.trans h.output, Nat.le_trans h.size k.size, fun i hi hne => (k.block i (Nat.lt_of_lt_of_le hi h.size) hne).trans (h.block i hi hne)⟩
theorem Only.of_below {g : Nat} {w w' : World} (h : Below w.heap.size w w') : Only g w w' := ⟨h.os, h.tape, h.output, h.size, fun k hk _ => h.block k hk⟩
theorem Only.set {g : Nat} {w w' : World} (h : Only g w w') (j : Nat) (v : Value) : Only g w (w'.setCell ⟨g, j, none⟩ v) := ⟨h.os, h.tape, h.output, by simpa using h.size, fun k hk hne => (Below.heap_setCell w' ⟨g, j, none⟩ v k hne).trans (h.block k hk hne)⟩
theorem Only.below {g B : Nat} {w w' : World} (h : Only g w w') (hg : B ≤ g) (hB : B ≤ w.heap.size) : Below B w w' := ⟨h.os, h.tape, h.output, h.size, fun k hk => h.block k (Nat.lt_of_lt_of_le hk hB) (by omega)⟩
theorem MW.ne_gm {w : World} {base g gm h : Nat} {v : Value} {s : Mc} (m : MW w base g gm h v s) : gm ≠ g := blk_ne m.mem.cell m.blk (by decide)
theorem MW.ne_h {w : World} {base g gm h : Nat} {v : Value} {s : Mc} (m : MW w base g gm h v s) : h ≠ g := blk_ne m.mem.row m.blk (by decide)
/-- One cell of the machine's block is turned. -/
theorem MW.cell_set {w : World} {base g gm h : Nat} {v : Value} {s t : Mc} (m : MW w base g gm h v s) (j : Nat) (x : Value) (he : (s.vals gm v).set j x = t.vals gm v) (ho : t.out = s.out) (hm : t.mem = s.mem) (hk : t.Ok) : MW (w.setCell ⟨g, j, none⟩ x) base g gm h v t := by
  refine ⟨?_, ?_, ?_, m.hb, hk⟩
  · rw [blk_set m.blk j x, ← he]; simp
  · rw [hm]; exact m.mem.far (p := ⟨g, j, none⟩) m.ne_gm m.ne_h x
  · rw [ho]; exact Kd.R_set m.out m.blk (by decide) j x
theorem Mc.Ok.reg {s : Mc} (h : s.Ok) (i : Nat) (x : Int) (x0 : 0 ≤ x) (x1 : x ≤ 4294967295) : ({ s with regs := s.regs.set i x } : Mc).Ok := by
  refine ⟨by simpa using h.rl, fun j => ?_, h.ml, h.m0, h.ul, h.il, h.cl, h.p0, h.c4⟩
  show 0 ≤ (s.regs.set i x).getD j 0 ∧ (s.regs.set i x).getD j 0 ≤ 4294967295
  by_cases hi : i < s.regs.length
  · by_cases e : j = i
    · subst e; simp [List.getD_eq_getElem?_getD, hi]; omega
    · have := h.r0 j
      simp only [List.getD_eq_getElem?_getD] at this ⊢
      rwa [List.getElem?_set_ne (fun q => e q.symm)]
  · rw [List.set_eq_of_length_le (by omega)]; exact h.r0 j
/-- What set makes of a machine. -/
def Mc.setR (s : Mc) (r : Nat) (x : Int) : Mc := if r = 0 then s else { s with regs := s.regs.set r x }
def RetM (g base gm h : Nat) (v r : Value) (s : Mc) (w : World) (e : Ending) (w' : World) : Prop := e = .returned r ∧ MW w' base g gm h v s ∧ Only g w w'
set_option maxHeartbeats 4000000 in
set_option maxRecDepth 100000 in
theorem set {w : World} {base g gm h : Nat} {v : Value} {s : Mc} (m : Aside0 (MW w base g gm h v s)) (r : Nat) (hr : r < 16) (x : Int) (x0 : 0 ≤ x) (x1 : x ≤ 4294967295) :
    Calls Try.prog 34 #[PM g, .int .i64 (r : Int), .int .u32 x] w (RetM g base gm h v (.tuple #[]) (s.setR r x) w) := by
  by_cases h0 : r = 0
  · subst h0
    go_enter Try.func34, Try.ntmps34
    go_wp2
    go_end0
    exact ⟨rfl, m.out, Only.refl _ _⟩
  · have c := m.out.c_rg r hr
    have f := m.out.fz (6 + r)
    have p0 := add1 g 6 r
    have q0 : (0 : Int) < (r : Int) := by omega
    have q1 : (r : Int) < 16 := by omega
    have q2 : r < 16 := hr
    have hs : Aside0 (s.setR r x = { s with regs := s.regs.set r x }) := ⟨by unfold Mc.setR; rw [if_neg h0]⟩
    generalize s.regs.getD r 0 = y at *
    go_enter Try.func34, Try.ntmps34
    go_wp2
    go_end0
    refine ⟨rfl, ?_, (Only.refl _ _).set _ _⟩
    rw [hs.out]
    exact m.out.cell_set (6 + r) (.int .u32 x) (Mc.set_rg m.out.ok.rl gm v r hr x) rfl rfl (m.out.ok.reg r x x0 x1)
/-- One cell behind the registers. -/
theorem MW.tl_set {w : World} {base g gm h : Nat} {v : Value} {s t : Mc} (m : MW w base g gm h v s) (j : Nat) (x : Value) (hd : t.hd gm = s.hd gm) (hr : t.regs = s.regs) (ht : (s.tl v).set j x = t.tl v) (ho : t.out = s.out) (hm : t.mem = s.mem) (hk : t.Ok) : MW (w.setCell ⟨g, 22 + j, none⟩ x) base g gm h v t :=
  m.cell_set (22 + j) x (Mc.set_tl m.ok.rl gm v v x j hd hr ht) ho hm hk
def Mc.trapK (s : Mc) (k : Int) : Mc := { s with ended := true, kind := 2, ecode := 0, trap := k }
set_option maxHeartbeats 4000000 in
set_option maxRecDepth 100000 in
theorem trap {w : World} {base g gm h : Nat} {v : Value} {s : Mc} (m : Aside0 (MW w base g gm h v s)) (k : Int) :
    Calls Try.prog 33 #[PM g, .int .i64 k] w (RetM g base gm h v (.tuple #[]) (s.trapK k) w) := by
  have c26 : w.cell? ⟨g, 26, none⟩ = some (.bool s.ended) := (m.out.c_tl 4).trans rfl
  have c27 : w.cell? ⟨g, 27, none⟩ = some (.int .i64 s.kind) := (m.out.c_tl 5).trans rfl
  have c28 : w.cell? ⟨g, 28, none⟩ = some (.int .i32 s.ecode) := (m.out.c_tl 6).trans rfl
  have c29 : w.cell? ⟨g, 29, none⟩ = some (.int .i64 s.trap) := (m.out.c_tl 7).trans rfl
  have c30 : w.cell? ⟨g, 30, none⟩ = some (.string ⟨#[]⟩) := (m.out.c_tl 8).trans rfl
  have c31 : w.cell? ⟨g, 31, none⟩ = some (.int .i64 0) := (m.out.c_tl 9).trans rfl
  have f26 := m.out.fz 26
  have f27 := m.out.fz 27
  have f28 := m.out.fz 28
  have f29 := m.out.fz 29
  have f30 := m.out.fz 30
  have f31 := m.out.fz 31
  go_enter Try.func33, Try.ntmps33
  go_wp2
  go_end0
  have k0 := m.out.ok
  have m1 : MW (w.setCell ⟨g, 26, none⟩ (.bool true)) base g gm h v { s with ended := true } := m.out.tl_set 4 _ rfl rfl rfl rfl rfl ⟨k0.rl, k0.r0, k0.ml, k0.m0, k0.ul, k0.il, k0.cl, k0.p0, k0.c4⟩
  have m2 : MW ((w.setCell ⟨g, 26, none⟩ (.bool true)).setCell ⟨g, 27, none⟩ (.int .i64 2)) base g gm h v { s with ended := true, kind := 2 } := m1.tl_set 5 _ rfl rfl rfl rfl rfl ⟨k0.rl, k0.r0, k0.ml, k0.m0, k0.ul, k0.il, k0.cl, k0.p0, k0.c4⟩
  have m3 : MW (((w.setCell ⟨g, 26, none⟩ (.bool true)).setCell ⟨g, 27, none⟩ (.int .i64 2)).setCell ⟨g, 28, none⟩ (.int .i32 0)) base g gm h v { s with ended := true, kind := 2, ecode := 0 } := m2.tl_set 6 _ rfl rfl rfl rfl rfl ⟨k0.rl, k0.r0, k0.ml, k0.m0, k0.ul, k0.il, k0.cl, k0.p0, k0.c4⟩
  have m4 : MW ((((w.setCell ⟨g, 26, none⟩ (.bool true)).setCell ⟨g, 27, none⟩ (.int .i64 2)).setCell ⟨g, 28, none⟩ (.int .i32 0)).setCell ⟨g, 29, none⟩ (.int .i64 k)) base g gm h v (s.trapK k) := m3.tl_set 7 _ rfl rfl rfl rfl rfl ⟨k0.rl, k0.r0, k0.ml, k0.m0, k0.ul, k0.il, k0.cl, k0.p0, k0.c4⟩
  have m5 : MW (((((w.setCell ⟨g, 26, none⟩ (.bool true)).setCell ⟨g, 27, none⟩ (.int .i64 2)).setCell ⟨g, 28, none⟩ (.int .i32 0)).setCell ⟨g, 29, none⟩ (.int .i64 k)).setCell ⟨g, 30, none⟩ (.string ⟨#[]⟩)) base g gm h v (s.trapK k) := m4.tl_set 8 _ rfl rfl rfl rfl rfl ⟨k0.rl, k0.r0, k0.ml, k0.m0, k0.ul, k0.il, k0.cl, k0.p0, k0.c4⟩
  have m6 : MW ((((((w.setCell ⟨g, 26, none⟩ (.bool true)).setCell ⟨g, 27, none⟩ (.int .i64 2)).setCell ⟨g, 28, none⟩ (.int .i32 0)).setCell ⟨g, 29, none⟩ (.int .i64 k)).setCell ⟨g, 30, none⟩ (.string ⟨#[]⟩)).setCell ⟨g, 31, none⟩ (.int .i64 0)) base g gm h v (s.trapK k) := m5.tl_set 9 _ rfl rfl rfl rfl rfl ⟨k0.rl, k0.r0, k0.ml, k0.m0, k0.ul, k0.il, k0.cl, k0.p0, k0.c4⟩
  exact ⟨rfl, m6, ((((((Only.refl g w).set _ _).set _ _).set _ _).set _ _).set _ _).set _ _⟩
/-- What get tells, and what it makes of a machine. -/
def Mc.getV (s : Mc) : Int := if hu : s.used < s.inp.size then (s.inp[s.used].toNat : Int) else 4294967295
def Mc.getS (s : Mc) : Mc := if s.used < s.inp.size then { s with used := s.used + 1 } else s
set_option maxHeartbeats 4000000 in
set_option maxRecDepth 100000 in
theorem get {w : World} {base g gm h : Nat} {v : Value} {s : Mc} (m : Aside0 (MW w base g gm h v s)) :
    Calls Try.prog 36 #[PM g] w (RetM g base gm h v (.int .u32 s.getV) s.getS w) := by
  have c23 : w.cell? ⟨g, 23, none⟩ = some (.string s.inp) := (m.out.c_tl 1).trans rfl
  have c24 : w.cell? ⟨g, 24, none⟩ = some (.int .i64 (s.used : Int)) := (m.out.c_tl 2).trans rfl
  have f24 := m.out.fz 24
  have hsz : s.inp.size ≤ 1048576 := m.out.ok.il
  by_cases hu : s.used < s.inp.size
  · have hv : Aside0 (s.getV = (s.inp[s.used].toNat : Int)) := ⟨by unfold Mc.getV; rw [dif_pos hu]⟩
    have hs : Aside0 (s.getS = { s with used := s.used + 1 }) := ⟨by unfold Mc.getS; rw [if_pos hu]⟩
    have q0 : (s.used : Int) < (s.inp.size : Int) := by omega
    have hok : Aside0 (({ s with used := s.used + 1 } : Mc).Ok) := ⟨by have k0 := m.out.ok; exact ⟨k0.rl, k0.r0, k0.ml, k0.m0, hu, k0.il, k0.cl, k0.p0, k0.c4⟩⟩
    have m1 : Aside0 (MW (w.setCell ⟨g, 24, none⟩ (.int .i64 ((s.used + 1 : Nat) : Int))) base g gm h v { s with used := s.used + 1 }) := ⟨m.out.tl_set 2 _ rfl rfl rfl rfl rfl hok.out⟩
    have ec : Aside0 (((s.used + 1 : Nat) : Int) = (s.used : Int) + 1) := ⟨by omega⟩
    rw [ec.out] at m1
    go_enter Try.func36, Try.ntmps36
    go_upto_region 1 with (fail)
    go_quiet (fail)
    go_upto_region 4 with (fail)
    have m2 : Aside0 (MW ((w.drewN nq).setCell ⟨g, 24, none⟩ (.int .i64 ((s.used : Int) + 1))) base g gm h v { s with used := s.used + 1 }) := ⟨by
      rw [← ec.out]
      exact (m.out.below (bdn0 _ _)).tl_set 2 _ rfl rfl rfl rfl rfl hok.out⟩
    have o2 : Aside0 (Only g w ((w.drewN nq).setCell ⟨g, 24, none⟩ (.int .i64 ((s.used : Int) + 1)))) := ⟨(Only.of_below (bdn0 w nq)).set _ _⟩
    generalize (w.drewN nq).setCell ⟨g, 24, none⟩ (.int .i64 ((s.used : Int) + 1)) = W2 at *
    clear c23 c24 f24 m1
    have d23 : W2.cell? ⟨g, 23, none⟩ = some (.string s.inp) := (m2.out.c_tl 1).trans rfl
    have d24 : W2.cell? ⟨g, 24, none⟩ = some (.int .i64 ((s.used : Int) + 1)) := (m2.out.c_tl 2).trans (by show some (Value.int .i64 ((s.used + 1 : Nat) : Int)) = _; rw [ec.out])
    have w1 : IntKind.i64.wrap ((s.used : Int) + 1 - 1) = (s.used : Int) := by rw [IntWalk.i64_in _ (by omega)]; omega
    go_quiet (fail)
    go_wp2_with fail
    go_ret
    have hmod : ((s.inp[s.used].toNat : Int)) % 4294967296 = (s.inp[s.used].toNat : Int) := by have := s.inp[s.used].toNat_lt; omega
    refine ⟨by rw [hv.out]; show Ending.returned (.int .u32 ((s.inp[s.used].toNat : Int) % 4294967296)) = _; rw [hmod], by rw [hs.out]; exact m2.out.below (bdn0 _ _), o2.out.trans (Only.of_below (bdn0 _ _))⟩
  · have hv : Aside0 (s.getV = 4294967295) := ⟨by unfold Mc.getV; rw [dif_neg hu]⟩
    have hs : Aside0 (s.getS = s) := ⟨by unfold Mc.getS; rw [if_neg hu]⟩
    have q0 : (s.inp.size : Int) ≤ (s.used : Int) := by omega
    have q1 : s.inp.size ≤ s.used := by omega
    clear hu
    go_enter Try.func36, Try.ntmps36
    go_upto_region 1 with (fail)
    go_quiet (fail)
    go_wp2_with fail
    go_ret
    exact ⟨by rw [hv.out]; rfl, by rw [hs.out]; exact m.out.below (bdn0 _ _), Only.of_below (bdn0 _ _)⟩
end Go.Proofs.Ytbhkfdjofopfkaa.MemA
