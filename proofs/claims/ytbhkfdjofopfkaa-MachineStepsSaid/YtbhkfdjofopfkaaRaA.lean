/- The reference's machine: its state in memory; set, trap; its memory's loads and stores. -/
import Derived.Test.YtbhkfdjofopfkaaMaK
namespace Go.Proofs.Ytbhkfdjofopfkaa.MemA
open Go.RowKit Go.Proofs.YtbhkfdjofopfkaaW.PrintWords Go.Proofs.YtbhkfdjofopfkaaW.PrintLast
set_option linter.unusedVariables false
set_option linter.unusedSimpArgs false
def Mc.rhd (s : Mc) (gm : Nat) : List Value := [.string s.code, .string s.data, .int .i64 s.glob, .int .i64 s.entry, .int .i64 s.frame, .string s.inp, .pointer (some ⟨gm, 0, none⟩)]
def Mc.rtl (s : Mc) (v : Value) : List Value := [.int .i64 s.pc, .bool s.ended, .int .i64 s.kind, .int .i32 s.ecode, .int .i64 s.trap, .string ⟨#[]⟩, .int .i64 0, v, .int .i64 (s.used : Int)]
def Mc.rvals (s : Mc) (gm : Nat) (v : Value) : List Value := s.rhd gm ++ (nums .u32 s.regs ++ s.rtl v)
theorem Mc.r_hd (s : Mc) (gm : Nat) (v : Value) (j : Nat) (hj : j < 7) : (s.rvals gm v)[j]? = (s.rhd gm)[j]? := List.getElem?_append_left hj
theorem Mc.r_rg {s : Mc} (h : s.regs.length = 16) (gm : Nat) (v : Value) (i : Nat) (hi : i < 16) : (s.rvals gm v)[7 + i]? = some (.int .u32 (s.regs.getD i 0)) := by
  unfold Mc.rvals
  rw [List.getElem?_append_right (by simp [Mc.rhd]), show 7 + i - (s.rhd gm).length = i by simp [Mc.rhd], List.getElem?_append_left (by rw [nums_length]; omega)]
  simp [nums, List.getD_eq_getElem?_getD, List.getElem?_eq_getElem (show i < s.regs.length by omega)]
theorem Mc.r_tl {s : Mc} (h : s.regs.length = 16) (gm : Nat) (v : Value) (j : Nat) : (s.rvals gm v)[23 + j]? = (s.rtl v)[j]? := by
  unfold Mc.rvals
  rw [List.getElem?_append_right (by simp [Mc.rhd]; omega), List.getElem?_append_right (by rw [nums_length, h]; simp [Mc.rhd]; omega)]
  congr 1
  rw [nums_length, h]
  simp [Mc.rhd]
  omega
theorem Mc.rset_rg {s : Mc} (h : s.regs.length = 16) (gm : Nat) (v : Value) (i : Nat) (hi : i < 16) (x : Int) : (s.rvals gm v).set (7 + i) (.int .u32 x) = ({ s with regs := s.regs.set i x }).rvals gm v := by
  unfold Mc.rvals
  rw [List.set_append, if_neg (by simp [Mc.rhd]), show 7 + i - (s.rhd gm).length = i by simp [Mc.rhd], List.set_append, if_pos (by rw [nums_length]; omega)]
  show s.rhd gm ++ ((nums .u32 s.regs).set i (.int .u32 x) ++ s.rtl v) = s.rhd gm ++ (nums .u32 (s.regs.set i x) ++ s.rtl v)
  simp [nums, List.map_set]
theorem Mc.rset_tl {s t : Mc} (h : s.regs.length = 16) (gm : Nat) (v v' x : Value) (j : Nat) (hd : t.rhd gm = s.rhd gm) (hr : t.regs = s.regs) (ht : (s.rtl v).set j x = t.rtl v') : (s.rvals gm v).set (23 + j) x = t.rvals gm v' := by
  unfold Mc.rvals
  rw [List.set_append, if_neg (by simp [Mc.rhd]; omega), List.set_append, if_neg (by rw [nums_length, h]; simp [Mc.rhd]; omega), hd, hr]
  have e : 23 + j - (s.rhd gm).length - (nums .u32 s.regs).length = j := by rw [nums_length, h]; simp [Mc.rhd]; omega
  rw [e, ht]
/-- A machine of the reference's lies in memory. -/
structure RW (w : World) (base g gm h : Nat) (v : Value) (s : Mc) : Prop where
  blk : w.heap[g]? = some (.cells (s.rvals gm v).toArray 58 (0, 0))
  mem : Mem 63 w gm h s.mem
  out : Kd.R (Kd.int .u8) 5 w base (fun _ => True) v s.out
  hb : h < base
  ok : s.Ok
theorem RW.c_hd {w : World} {base g gm h : Nat} {v : Value} {s : Mc} (m : RW w base g gm h v s) (j : Nat) (hj : j < 7) : w.cell? ⟨g, j, none⟩ = (s.rhd gm)[j]? := by
  rw [blk_cell m.blk j, ← s.r_hd gm v j hj]; simp
theorem RW.c_rg {w : World} {base g gm h : Nat} {v : Value} {s : Mc} (m : RW w base g gm h v s) (i : Nat) (hi : i < 16) : w.cell? ⟨g, 7 + i, none⟩ = some (.int .u32 (s.regs.getD i 0)) := by
  rw [blk_cell m.blk, ← Mc.r_rg m.ok.rl gm v i hi]; simp
theorem RW.c_tl {w : World} {base g gm h : Nat} {v : Value} {s : Mc} (m : RW w base g gm h v s) (j : Nat) : w.cell? ⟨g, 23 + j, none⟩ = (s.rtl v)[j]? := by
  rw [blk_cell m.blk, ← Mc.r_tl m.ok.rl gm v j]; simp
theorem RW.fz {w : World} {base g gm h : Nat} {v : Value} {s : Mc} (m : RW w base g gm h v s) (j : Nat) : w.frozen? ⟨g, j, none⟩ = false := blk_frozen m.blk j
theorem RW.below {w w' : World} {base g gm h : Nat} {v : Value} {s : Mc} (m : RW w base g gm h v s) (b : Below w.heap.size w w') : RW w' base g gm h v s :=
  ⟨blk_below m.blk b, m.mem.below b, Kd.R_below m.out b, m.hb, m.ok⟩
theorem RW.ne_gm {w : World} {base g gm h : Nat} {v : Value} {s : Mc} (m : RW w base g gm h v s) : gm ≠ g := blk_ne m.mem.cell m.blk (by decide)
theorem RW.ne_h {w : World} {base g gm h : Nat} {v : Value} {s : Mc} (m : RW w base g gm h v s) : h ≠ g := blk_ne m.mem.row m.blk (by decide)
theorem RW.cell_set {w : World} {base g gm h : Nat} {v : Value} {s t : Mc} (m : RW w base g gm h v s) (j : Nat) (x : Value) (he : (s.rvals gm v).set j x = t.rvals gm v) (ho : t.out = s.out) (hm : t.mem = s.mem) (hk : t.Ok) : RW (w.setCell ⟨g, j, none⟩ x) base g gm h v t := by
  refine ⟨?_, ?_, ?_, m.hb, hk⟩
  · rw [blk_set m.blk j x, ← he]; simp
  · rw [hm]; exact m.mem.far (p := ⟨g, j, none⟩) m.ne_gm m.ne_h x
  · rw [ho]; exact Kd.R_set m.out m.blk (by decide) j x
theorem RW.tl_set {w : World} {base g gm h : Nat} {v : Value} {s t : Mc} (m : RW w base g gm h v s) (j : Nat) (x : Value) (hd : t.rhd gm = s.rhd gm) (hr : t.regs = s.regs) (ht : (s.rtl v).set j x = t.rtl v) (ho : t.out = s.out) (hm : t.mem = s.mem) (hk : t.Ok) : RW (w.setCell ⟨g, 23 + j, none⟩ x) base g gm h v t :=
  m.cell_set (23 + j) x (Mc.rset_tl m.ok.rl gm v v x j hd hr ht) ho hm hk
theorem RW.jump {w : World} {base g gm h : Nat} {v : Value} {s : Mc} (m : RW w base g gm h v s) (n : Int) (n0 : -17179869184 ≤ n ∧ n ≤ 17179869184) : RW (w.setCell ⟨g, 23, none⟩ (.int .i64 n)) base g gm h v (s.jump n) :=
  m.tl_set 0 _ rfl rfl rfl rfl rfl (m.ok.jump n0)
theorem RW.h_own {w : World} {base g gm h : Nat} {v : Value} {s : Mc} (m : RW w base g gm h v s) : ∀ k, v.ownBlock = some k → k ≠ h := by
  intro k hk
  have := (Kd.R_bound m.out).1 k hk
  have := m.hb
  omega
theorem RW.mem_to {w w' : World} {base g gm h : Nat} {v : Value} {s : Mc} (m : RW w base g gm h v s) {b : List Int} (hm : Mem 63 w' gm h b) (hf : Fr (· = h) w w') (hl : b.length = s.mem.length) (hb : ∀ i, 0 ≤ b.getD i 0 ∧ b.getD i 0 ≤ 255) : RW w' base g gm h v { s with mem := b } := by
  refine ⟨hf.blk m.blk m.ne_h.symm, hm, ?_, m.hb, m.ok.setMem hl hb⟩
  exact Kd.R_mono (ok := fun k => base ≤ k) (Kd.R_kept (Kd.R_mono (Kd.R_bound m.out) (fun k hk => hk.2.1)) hf.kept (fun k hk => by show k ≠ h; have := m.hb; omega)) (fun _ _ => trivial)
def RetR (S : Nat → Prop) (g base gm h : Nat) (v r : Value) (s : Mc) (w : World) (e : Ending) (w' : World) : Prop := e = .returned r ∧ RW w' base g gm h v s ∧ Fr S w w'
set_option maxHeartbeats 4000000 in
set_option maxRecDepth 100000 in
theorem rset {w : World} {base g gm h : Nat} {v : Value} {s : Mc} (m : Aside0 (RW w base g gm h v s)) (r : Nat) (hr : r < 16) (x : Int) (x0 : 0 ≤ x) (x1 : x ≤ 4294967295) :
    Calls Try.prog 44 #[PM g, .int .i64 (r : Int), .int .u32 x] w (RetR (· = g) g base gm h v (.tuple #[]) (s.setR r x) w) := by
  by_cases h0 : r = 0
  · subst h0
    go_enter Try.func44, Try.ntmps44
    go_wp2
    go_end0
    exact ⟨rfl, m.out, Fr.refl _ _⟩
  · have c := m.out.c_rg r hr
    have f := m.out.fz (7 + r)
    have p0 := add1 g 7 r
    have q0 : ((r : Int) == 0) = false := by rw [beq_eq_false_iff_ne]; omega
    have q3 : ((r : Int) != 0) = true := by simp; omega
    have q1 : (r : Int) < 16 := by omega
    have q2 : r < 16 := hr
    have hs : Aside0 (s.setR r x = { s with regs := s.regs.set r x }) := ⟨by unfold Mc.setR; rw [if_neg h0]⟩
    generalize s.regs.getD r 0 = y at *
    go_enter Try.func44, Try.ntmps44
    go_wp2
    go_end0
    refine ⟨rfl, ?_, (Fr.refl (· = g) w).setCell (p := ⟨g, 7 + r, none⟩) rfl _⟩
    rw [hs.out]
    exact m.out.cell_set (7 + r) (.int .u32 x) (Mc.rset_rg m.out.ok.rl gm v r hr x) rfl rfl (m.out.ok.reg r x x0 x1)
set_option maxHeartbeats 4000000 in
set_option maxRecDepth 100000 in
theorem rtrap {w : World} {base g gm h : Nat} {v : Value} {s : Mc} (m : Aside0 (RW w base g gm h v s)) (k : Int) :
    Calls Try.prog 41 #[PM g, .int .i64 k] w (RetR (· = g) g base gm h v (.tuple #[]) (s.trapK k) w) := by
  have c24 : w.cell? ⟨g, 24, none⟩ = some (.bool s.ended) := (m.out.c_tl 1).trans rfl
  have c25 : w.cell? ⟨g, 25, none⟩ = some (.int .i64 s.kind) := (m.out.c_tl 2).trans rfl
  have c26 : w.cell? ⟨g, 26, none⟩ = some (.int .i32 s.ecode) := (m.out.c_tl 3).trans rfl
  have c27 : w.cell? ⟨g, 27, none⟩ = some (.int .i64 s.trap) := (m.out.c_tl 4).trans rfl
  have c28 : w.cell? ⟨g, 28, none⟩ = some (.string ⟨#[]⟩) := (m.out.c_tl 5).trans rfl
  have c29 : w.cell? ⟨g, 29, none⟩ = some (.int .i64 0) := (m.out.c_tl 6).trans rfl
  have f24 := m.out.fz 24
  have f25 := m.out.fz 25
  have f26 := m.out.fz 26
  have f27 := m.out.fz 27
  have f28 := m.out.fz 28
  have f29 := m.out.fz 29
  go_enter Try.func41, Try.ntmps41
  go_wp2
  go_end0
  have k0 := m.out.ok
  have m1 := m.out.tl_set (t := { s with ended := true }) 1 (.bool true) rfl rfl rfl rfl rfl ⟨k0.rl, k0.r0, k0.ml, k0.m0, k0.ul, k0.il, k0.cl, k0.p0, k0.c4⟩
  have m2 := m1.tl_set (t := { s with ended := true, kind := 2 }) 2 (.int .i64 2) rfl rfl rfl rfl rfl ⟨k0.rl, k0.r0, k0.ml, k0.m0, k0.ul, k0.il, k0.cl, k0.p0, k0.c4⟩
  have m3 := m2.tl_set (t := { s with ended := true, kind := 2, ecode := 0 }) 3 (.int .i32 0) rfl rfl rfl rfl rfl ⟨k0.rl, k0.r0, k0.ml, k0.m0, k0.ul, k0.il, k0.cl, k0.p0, k0.c4⟩
  have m4 := m3.tl_set (t := s.trapK k) 4 (.int .i64 k) rfl rfl rfl rfl rfl ⟨k0.rl, k0.r0, k0.ml, k0.m0, k0.ul, k0.il, k0.cl, k0.p0, k0.c4⟩
  have m5 := m4.tl_set (t := s.trapK k) 5 (.string ⟨#[]⟩) rfl rfl rfl rfl rfl ⟨k0.rl, k0.r0, k0.ml, k0.m0, k0.ul, k0.il, k0.cl, k0.p0, k0.c4⟩
  have m6 := m5.tl_set (t := s.trapK k) 6 (.int .i64 0) rfl rfl rfl rfl rfl ⟨k0.rl, k0.r0, k0.ml, k0.m0, k0.ul, k0.il, k0.cl, k0.p0, k0.c4⟩
  exact ⟨rfl, m6, (((((((Fr.refl (· = g) w).setCell (p := ⟨g, 24, none⟩) rfl _).setCell (p := ⟨g, 25, none⟩) rfl _).setCell (p := ⟨g, 26, none⟩) rfl _).setCell (p := ⟨g, 27, none⟩) rfl _).setCell (p := ⟨g, 28, none⟩) rfl _).setCell (p := ⟨g, 29, none⟩) rfl _)⟩
theorem Fr.of_grown1 {W w1 : World} {h : Nat} (hg : W.grownBy w1 (some h)) : Fr (· = h) W w1 := ⟨hg.os, hg.tape, hg.output, hg.size, fun i hi hn => hg.block i hi (fun e => hn (by injection e))⟩
theorem rld4 {w : World} {base g gm h : Nat} {v : Value} {s : Mc} (m : Aside0 (RW w base g gm h v s)) (t : Int) (t0 : 0 ≤ t) (t1 : t < 4294967296) :
    Calls Try.prog 61 #[.pointer (some ⟨gm, 0, none⟩), .int .u32 t] w fun e w' => e = .returned (.tuple #[.int .u32 (if ok4 t then w4 s.mem t.toNat else 0), .int .i64 (if ok4 t then 0 else 1)]) ∧ w = w' := by
  obtain ⟨a, rfl⟩ : ∃ a : Nat, t = (a : Int) := ⟨t.toNat, by omega⟩
  have hl := m.out.ok.ml
  cases hk : ok4 (a : Int)
  · refine (rload4_no (w := w) (a := a) ⟨m.out.mem⟩ (by omega) (by omega) ?_).mono ?_
    · simp [ok4] at hk; omega
    · rintro e w' ⟨rfl, rfl⟩; exact ⟨rfl, rfl⟩
  · simp [ok4] at hk
    refine (rload4_yes (w := w) (a := a) ⟨m.out.mem⟩ (by omega) (by omega) (by omega) (by omega) ⟨m.out.ok.m0⟩).mono ?_
    rintro e w' ⟨rfl, hn⟩
    exact ⟨rfl, hn⟩
theorem rld1 {w : World} {base g gm h : Nat} {v : Value} {s : Mc} (m : Aside0 (RW w base g gm h v s)) (t : Int) (t0 : 0 ≤ t) (t1 : t < 4294967296) :
    Calls Try.prog 62 #[.pointer (some ⟨gm, 0, none⟩), .int .u32 t] w fun e w' => e = .returned (.tuple #[.int .u32 (if ok1 t then s.mem.getD t.toNat 0 else 0), .int .i64 (if ok1 t then 0 else 1)]) ∧ w = w' := by
  obtain ⟨a, rfl⟩ : ∃ a : Nat, t = (a : Int) := ⟨t.toNat, by omega⟩
  have hl := m.out.ok.ml
  cases hk : ok1 (a : Int)
  · refine (rload1_no (w := w) (a := a) ⟨m.out.mem⟩ (by omega) (by omega) ?_).mono ?_
    · simp [ok1] at hk; omega
    · rintro e w' ⟨rfl, rfl⟩; exact ⟨rfl, rfl⟩
  · simp [ok1] at hk
    refine (rload1_yes (w := w) (a := a) ⟨m.out.mem⟩ (by omega) (by omega) (by omega) (m.out.ok.m0 a).1 (m.out.ok.m0 a).2).mono ?_
    rintro e w' ⟨rfl, rfl⟩
    exact ⟨rfl, rfl⟩
theorem lay_bs4 (b : List Int) (a : Nat) (x : Int) (x0 : 0 ≤ x) (x1 : x ≤ 4294967295) : lay b a (bs4 x) = put4 b a x := by
  unfold bs4 put4
  rw [show x / 16777216 % 256 = x / 16777216 by omega]
  rfl
theorem put4_length (b : List Int) (a : Nat) (x : Int) : (put4 b a x).length = b.length := by simp [put4]
theorem put4_byte {b : List Int} (h : ∀ i, 0 ≤ b.getD i 0 ∧ b.getD i 0 ≤ 255) (a : Nat) (x : Int) (x0 : 0 ≤ x) (x1 : x ≤ 4294967295) : ∀ i, 0 ≤ (put4 b a x).getD i 0 ∧ (put4 b a x).getD i 0 ≤ 255 :=
  byte_set (byte_set (byte_set (byte_set h a _ (by omega) (by omega)) (a + 1) _ (by omega) (by omega)) (a + 2) _ (by omega) (by omega)) (a + 3) _ (by omega) (by omega)
theorem rst4 {w : World} {base g gm h : Nat} {v : Value} {s : Mc} (m : Aside0 (RW w base g gm h v s)) (t : Int) (t0 : 0 ≤ t) (t1 : t < 4294967296) (x : Int) (x0 : 0 ≤ x) (x1 : x ≤ 4294967295) :
    Calls Try.prog 63 #[.pointer (some ⟨gm, 0, none⟩), .int .u32 t, .int .u32 x] w (RetR (· = h) g base gm h v (.int .i64 (if ok4 t then 0 else 1)) (s.st4 t x) w) := by
  obtain ⟨a, rfl⟩ : ∃ a : Nat, t = (a : Int) := ⟨t.toNat, by omega⟩
  have hl := m.out.ok.ml
  unfold Mc.st4
  cases hk : ok4 (a : Int)
  · refine (rstore4_no (w := w) (a := a) ⟨m.out.mem⟩ x (by omega) (by omega) ?_).mono ?_
    · simp [ok4] at hk; omega
    · rintro e w' ⟨rfl, rfl⟩; exact ⟨rfl, m.out, Fr.refl _ _⟩
  · simp [ok4] at hk
    refine (rstore4_yes (w := w) (a := a) ⟨m.out.mem⟩ x x0 x1 (by omega) (by omega) (by omega) (by omega)).mono ?_
    rintro e w' ⟨rfl, hm, hg⟩
    rw [lay_bs4 _ _ _ x0 x1] at hm
    exact ⟨rfl, m.out.mem_to hm (Fr.of_grown1 hg) (put4_length _ _ _) (put4_byte m.out.ok.m0 _ _ x0 x1), Fr.of_grown1 hg⟩
theorem rst1 {w : World} {base g gm h : Nat} {v : Value} {s : Mc} (m : Aside0 (RW w base g gm h v s)) (t : Int) (t0 : 0 ≤ t) (t1 : t < 4294967296) (x : Int) (x0 : 0 ≤ x) (x1 : x ≤ 4294967295) :
    Calls Try.prog 64 #[.pointer (some ⟨gm, 0, none⟩), .int .u32 t, .int .u32 x] w (RetR (· = h) g base gm h v (.int .i64 (if ok1 t then 0 else 1)) (s.st1 t x) w) := by
  obtain ⟨a, rfl⟩ : ∃ a : Nat, t = (a : Int) := ⟨t.toNat, by omega⟩
  have hl := m.out.ok.ml
  unfold Mc.st1
  cases hk : ok1 (a : Int)
  · refine (rstore1_no (w := w) (a := a) ⟨m.out.mem⟩ x (by omega) (by omega) ?_).mono ?_
    · simp [ok1] at hk; omega
    · rintro e w' ⟨rfl, rfl⟩; exact ⟨rfl, m.out, Fr.refl _ _⟩
  · simp [ok1] at hk
    refine (rstore1_yes (w := w) (a := a) ⟨m.out.mem⟩ x x0 x1 (by omega) (by omega) (by omega)).mono ?_
    rintro e w' ⟨rfl, rfl⟩
    exact ⟨rfl, m.out.mem_to (m.out.mem.put a _) ((Fr.refl _ w).set1 _ _) (by simp) (byte_set m.out.ok.m0 a _ (by omega) (by omega)), (Fr.refl _ w).set1 _ _⟩
end Go.Proofs.Ytbhkfdjofopfkaa.MemA
