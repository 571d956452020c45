/- The checker's instr. -/
import Derived.Test.YtidhkicpandmbaaIrA
import Derived.Test.YtidhkicpandmbaaGFx1
import Derived.Deep.DeepCutAuto
namespace Go.Proofs.Ytidhkicpandmbaa.IrA
open Go.RowKit Go.Proofs.YtidhkicpandmbaaW.PrintWords Go.Proofs.YtidhkicpandmbaaW.PrintLast Go.Proofs.Ytidhkicpandmbaa.GF
set_option linter.unusedVariables false
set_option linter.unusedSimpArgs false

/-- An operation's parts: dst, args, imm, alu, wide, pred; is it one? -/
structure Pt where
  d : Bool
  n : Int
  i : Bool
  a : Bool
  wd : Bool
  p : Bool
  is : Bool
def pt (op : Int) : Pt :=
  if op = 1 ∨ op = 4 ∨ op = 5 then ⟨true, 0, true, false, false, false, true⟩
  else if op = 2 then ⟨true, 1, false, false, false, false, true⟩
  else if op = 3 then ⟨true, 2, false, true, false, false, true⟩
  else if op = 6 then ⟨true, 1, true, false, true, false, true⟩
  else if op = 7 then ⟨false, 2, true, false, true, false, true⟩
  else if op = 8 then ⟨false, 1, true, false, false, false, true⟩
  else if op = 9 then ⟨true, -1, true, false, false, false, true⟩
  else if op = 10 then ⟨true, 0, false, false, false, false, true⟩
  else if op = 11 then ⟨false, 1, false, false, false, false, true⟩
  else if op = 12 then ⟨true, -1, false, false, false, true, true⟩
  else ⟨false, 0, false, false, false, false, false⟩
abbrev ptv (s : Pt) : Value := .agg #[.bool s.d, .int .i64 s.n, .bool s.i, .bool s.a, .bool s.wd, .bool s.p]
def ShapeIs (op : Int) (s : Pt) : Prop := ∀ w, Calls Try.prog 60 #[.int .i64 op] w (RetB (.tuple #[ptv s, .bool s.is]) w)
theorem ShapeIs.call {op : Int} {s : Pt} (h : ShapeIs op s) (w : World) : Calls Try.prog 60 #[.int .i64 op] w (RetB (.tuple #[ptv s, .bool s.is]) w) := h w

/-- An element of a list of lists. -/
theorem atL {w : World} {A : Option Addr} {n : Nat} {xs : List (List Int)} (h : Kd.C (Kd.slice 3 (Kd.int .i64)) w A n xs) (i : Nat) (h1 : i < n) : ∃ ad A0 c0, A = some ad ∧ w.cell? (ad.add i) = some (.slice A0 (xs.getD i []).length c0) ∧ (xs.getD i []).length ≤ c0 ∧ (Kd.int .i64).C w A0 (xs.getD i []).length (xs.getD i []) := by
  obtain ⟨ad, c, e, _, hK, hc0⟩ := Kd.C_get h ([] : List Int) (i : Int) (by omega) (by omega)
  rw [Int.toNat_natCast] at hK hc0
  have hc : ∀ j u, c[j]? = some u → w.cell? (ad.add (i * 1 + j)) = some u := hc0
  obtain ⟨A0, c0, rfl, l0, g0⟩ := hK
  exact ⟨ad, A0, c0, e, by have hq := hc 0 _ rfl; rwa [Nat.mul_one, Nat.add_zero] at hq, l0, g0⟩

theorem same_drop0 (l r : List Int) (h : l.length = r.length) (j : Nat) (hj : j < l.length) : (l.drop j == r.drop j) = (rd l (j : Int) == rd r (j : Int) && (l.drop (j + 1) == r.drop (j + 1))) := by
  have d1 : l.drop j = l[j] :: l.drop (j + 1) := List.drop_eq_getElem_cons (by omega)
  have d2 : r.drop j = r[j] :: r.drop (j + 1) := List.drop_eq_getElem_cons (by omega)
  have e1 : rd l j = l[j] := by simp [rd, List.getD_eq_getElem?_getD, List.getElem?_eq_getElem (show j < l.length by omega)]
  have e2 : rd r j = r[j] := by simp [rd, List.getD_eq_getElem?_getD, List.getElem?_eq_getElem (show j < r.length by omega)]
  rw [d1, d2, e1, e2]
  rw [Bool.eq_iff_iff]
  simp only [beq_iff_eq, List.cons.injEq, Bool.and_eq_true]
set_option maxHeartbeats 8000000 in
set_option maxRecDepth 100000 in
theorem equal0 {w : World} {A B : Option Addr} {c d : Nat} {l r : List Int} (hl : Aside0 (Kd.C (Kd.int .i64) w A l.length l)) (hr : Aside0 (Kd.C (Kd.int .i64) w B r.length r)) :
    Calls Try.prog 63 #[.slice A l.length c, .slice B r.length d] w fun e w' => e = .returned (.bool (l == r)) ∧ ∃ n, w' = w.drewN n := by
  have hmx := Kd.C_max hl.out
  by_cases hlen : l.length = r.length
  · have h1 : ((l.length : Int) != (r.length : Int)) = false := by simp [hlen]
    have h2 : (l.length != r.length) = false := by simp [hlen]
    have hle : l.length ≤ r.length := by omega
    have hle2 : r.length ≤ l.length := by omega
    have hst : Aside0 ((l.drop 0 == r.drop 0) = (l == r)) := ⟨rfl⟩
    have hlen' := Aside0.mk hlen
    clear hlen
    go_enter Try.func63, Try.ntmps63
    go_wp2
    go_loopw [13] (fun i wr => ∃ j m : Nat, j ≤ l.length ∧ i = .int .i64 j ∧ wr = w.drewN m ∧ Aside0 ((l.drop j == r.drop j) = (l == r))) (fun i _ => l.length - (intOf i).toNat)
    case atStart => exact ⟨0, 0, by omega, rfl, rfl, hst⟩
    case round =>
      obtain ⟨j, m, hj, rfl, rfl, hE⟩ := hrel
      clear hst
      by_cases hlt : j < l.length
      · obtain ⟨ad, e, x0⟩ := Kd.at_int hl.out j (by omega) (by omega)
        cases e
        obtain ⟨ae, e, y0⟩ := Kd.at_int hr.out j (by omega) (by omega)
        cases e
        simp only [Int.toNat_natCast] at x0 y0
        have hd := same_drop0 l r hlen'.out j hlt
        generalize rd l (j : Int) = x at *
        generalize rd r (j : Int) = y at *
        have x0 : (w.drewN m).cell? (ad.add j) = some (.int .i64 x) := x0
        have y0 : (w.drewN m).cell? (ae.add j) = some (.int .i64 y) := y0
        have hjr : j < r.length := by omega
        have hdr := Aside0.mk (fun n => World.drewN_drewN w m n)
        by_cases hxy : x = y
        · subst hxy
          have hE2 : Aside0 ((l.drop (j + 1) == r.drop (j + 1)) = (l == r)) := ⟨by rw [← hE.out, hd]; simp⟩
          have q1 : (x != x) = false := by simp
          clear hd hE
          generalize w.drewN m = w2 at *
          go_wp2
          go_quiet (fail)
          go_wp2
          exact ⟨⟨j + 1, m + nq, by omega, by go_num, by rw [hdr.out], hE2⟩, by simp [intOf]; omega⟩
        · have hE2 : Aside0 ((l == r) = false) := ⟨by rw [← hE.out, hd]; simp [hxy]⟩
          have q1 : (x != y) = true := by simpa using hxy
          clear hd hE hxy
          generalize w.drewN m = w2 at *
          go_wp2
          go_quiet (fail)
          go_wp2
          go_ret
          rw [hE2.out]
          exact ⟨rfl, _, hdr.out _⟩
      · obtain rfl : j = l.length := by omega
        have hE2 : Aside0 ((l == r) = true) := ⟨by rw [← hE.out, List.drop_of_length_le (Nat.le_refl _), List.drop_of_length_le hle2]; rfl⟩
        clear hE
        go_wp2
        go_ret
        rw [hE2.out]
        exact ⟨rfl, _, rfl⟩
  · have h1 : ((l.length : Int) != (r.length : Int)) = true := by simp; omega
    have h2 : (l.length != r.length) = true := by simp [hlen]
    have hE2 : Aside0 ((l == r) = false) := ⟨by rw [← Bool.not_eq_true, beq_iff_eq]; exact fun e => hlen (by rw [e])⟩
    clear hlen
    go_enter Try.func63, Try.ntmps63
    go_wp2
    go_ret
    rw [hE2.out]
    exact ⟨rfl, 0, rfl⟩
theorem equal {w : World} {A0 A1 : Option Addr} {c0 c1 : Nat} {l r : List Int} (hl : Aside0 (Kd.C (Kd.int .i64) w A0 l.length l)) (hr : Aside0 (Kd.C (Kd.int .i64) w A1 r.length r)) (hc0 : l.length ≤ c0) (hc1 : r.length ≤ c1) :
    Calls Try.prog 63 #[.slice A0 l.length c0, .slice A1 r.length c1] w fun e w' => e = .returned (.bool (l == r)) ∧ Aside0 (∃ n, w' = w.drewN n) :=
  (equal0 hl hr).mono fun _ _ h => ⟨h.1, ⟨h.2⟩⟩

def isB (regs : Int) (fs : List S28) (glob slots : Int) (preds : List (List Int)) (blk : Nat) (x : S64) (s : Pt) : Bool :=
  s.is && (dstB regs x s.d && (immB fs glob slots x s.i && (!(decide (0 ≤ s.n) && (x.f2.length : Int) != s.n) && ((x.f2.all fun r => wi r 0 (regs - 1)) &&
  (!(s.a != wi x.f4 1 19 || (!s.a && x.f4 != 0)) && (!((s.wd && x.f5 != 1 && x.f5 != 4) || (!s.wd && x.f5 != 0)) &&
  (if s.p = true then (x.f2.length == x.f6.length && x.f6 == preds.getD blk []) else x.f6.length == 0)))))))

abbrev so (s : Pt) : Obj := .cells #[.bool s.d, .int .i64 s.n, .bool s.i, .bool s.a, .bool s.wd, .bool s.p] 98 (0, 0)
/-- What instr knows of a world: the checker at g, the instruction's box at X, its parts at Y. -/
structure St (w : World) (g X Y : Nat) (c : Ckr) (x : S64) (A2 A6 : Option Addr) (c2 c6 : Nat) (s : Pt) (fs : List S28) (A9 : Option Addr) (preds : List (List Int)) (W : World) : Prop where
  hg : W.heap[g]? = some c.obj
  hI : W.heap[X]? = some (ib x A2 A6 c2 c6)
  hS : W.heap[Y]? = some (so s)
  m2 : Kd.C (Kd.int .i64) W A2 x.f2.length x.f2
  m6 : Kd.C (Kd.int .i64) W A6 x.f6.length x.f6
  m9 : Kd.C (Kd.slice 3 (Kd.int .i64)) W A9 preds.length preds
  mf : Kd.C k28 W c.A0 c.n0 fs
  hB : Below w.heap.size w W
theorem St.next {w W W' : World} {g X Y : Nat} {c : Ckr} {x : S64} {A2 A6 : Option Addr} {c2 c6 : Nat} {s : Pt} {fs : List S28} {A9 : Option Addr} {preds : List (List Int)} (h : St w g X Y c x A2 A6 c2 c6 s fs A9 preds W) (b : Below W.heap.size W W') : St w g X Y c x A2 A6 c2 c6 s fs A9 preds W' :=
  ⟨(b.block _ (blk_lt h.hg)).trans h.hg, (b.block _ (blk_lt h.hI)).trans h.hI, (b.block _ (blk_lt h.hS)).trans h.hS, Kd.C_below h.m2 b, Kd.C_below h.m6 b, Kd.C_below h.m9 b, Kd.C_below h.mf b, below_step h.hB b⟩
theorem St.cells {w W : World} {g X Y : Nat} {c : Ckr} {x : S64} {A2 A6 : Option Addr} {c2 c6 : Nat} {s : Pt} {fs : List S28} {A9 : Option Addr} {preds : List (List Int)} (h : St w g X Y c x A2 A6 c2 c6 s fs A9 preds W) :
    (W.cell? ⟨X, 0, none⟩ = some (.int .i64 x.f0) ∧ W.cell? ⟨X, 1, none⟩ = some (.int .i64 x.f1) ∧ W.cell? ⟨X, 2, none⟩ = some (.slice A2 x.f2.length c2) ∧ W.cell? ⟨X, 3, none⟩ = some (.int .i32 x.f3) ∧ W.cell? ⟨X, 4, none⟩ = some (.int .i64 x.f4) ∧ W.cell? ⟨X, 5, none⟩ = some (.int .i64 x.f5) ∧ W.cell? ⟨X, 6, none⟩ = some (.slice A6 x.f6.length c6)) ∧
    (W.cell? ⟨Y, 0, none⟩ = some (.bool s.d) ∧ W.cell? ⟨Y, 1, none⟩ = some (.int .i64 s.n) ∧ W.cell? ⟨Y, 2, none⟩ = some (.bool s.i) ∧ W.cell? ⟨Y, 3, none⟩ = some (.bool s.a) ∧ W.cell? ⟨Y, 4, none⟩ = some (.bool s.wd) ∧ W.cell? ⟨Y, 5, none⟩ = some (.bool s.p)) ∧ W.cell? ⟨g, 9, none⟩ = some c.v9 :=
  ⟨⟨(blk_cell h.hI 0).trans rfl, (blk_cell h.hI 1).trans rfl, (blk_cell h.hI 2).trans rfl, (blk_cell h.hI 3).trans rfl, (blk_cell h.hI 4).trans rfl, (blk_cell h.hI 5).trans rfl, (blk_cell h.hI 6).trans rfl⟩, ⟨(blk_cell h.hS 0).trans rfl, (blk_cell h.hS 1).trans rfl, (blk_cell h.hS 2).trans rfl, (blk_cell h.hS 3).trans rfl, (blk_cell h.hS 4).trans rfl, (blk_cell h.hS 5).trans rfl⟩, (blk_cell h.hg 9).trans rfl⟩
set_option maxHeartbeats 16000000 in
set_option maxRecDepth 100000 in
theorem instr {w : World} {g : Nat} {c : Ckr} (hg : Aside0 (w.heap[g]? = some c.obj)) (x : S64) (A2 A6 : Option Addr) (c2 c6 : Nat) (blk : Nat) (s : Pt) (hs : Aside0 (ShapeIs x.f0 s))
    (h0 : 0 ≤ c.regs) (h1 : c.regs ≤ 65536) (i0 : -2147483648 ≤ x.f3) (i1 : x.f3 ≤ 2147483647) (fs : List S28) (hn : fs.length = c.n0) (hf : Aside0 (Kd.C k28 w c.A0 c.n0 fs))
    (h2 : Aside0 (Kd.C (Kd.int .i64) w A2 x.f2.length x.f2)) (h6 : Aside0 (Kd.C (Kd.int .i64) w A6 x.f6.length x.f6)) (l2 : x.f2.length ≤ c2) (l6 : x.f6.length ≤ c6)
    (A9 : Option Addr) (c9 : Nat) (preds : List (List Int)) (hv : c.v9 = .slice A9 preds.length c9) (h9 : Aside0 (Kd.C (Kd.slice 3 (Kd.int .i64)) w A9 preds.length preds)) (hb : blk < preds.length) :
    Calls Try.prog 52 #[P g, iv x A2 A6 c2 c6, .int .i64 blk] w (RetB (.bool (isB c.regs fs c.glob c.slots preds blk x s)) w) := by
  have hmx := Kd.C_max h2.out
  have hmx6 := Kd.C_max h6.out
  have hI := blk_new w (ib x A2 A6 c2 c6)
  have hB : Aside0 (Below w.heap.size w (w.alloc (ib x A2 A6 c2 c6))) := ⟨below_alloc (Below.refl _ _) _⟩
  have hw9 := Aside0.mk hv
  clear hv
  go_enter Try.func52, Try.ntmps52
  go_wp2_with fail
  (with_reducible refine (hs.out.call _).mono ?_)
  rintro e w1 ⟨rfl, hb1⟩
  have hI1 := Aside0.mk ((hb1.block _ (blk_lt hI)).trans hI)
  have hB1 := Aside0.mk (below_step hB.out hb1)
  clear hb1 hI hB hs
  have hS := Aside0.mk (blk_new w1 (so s))
  have hst : Aside0 (St w g w.heap.size w1.heap.size c x A2 A6 c2 c6 s fs A9 preds (w1.alloc (so s))) := ⟨by
    have b := below_step hB1.out (below_alloc (Below.refl _ _) (so s))
    exact ⟨(b.block g (blk_lt hg.out)).trans hg.out, blk_alloc hI1.out (so s), hS.out, Kd.C_below h2.out b, Kd.C_below h6.out b, Kd.C_below h9.out b, Kd.C_below hf.out b, b⟩⟩
  have hlt := blk_lt hI1.out
  clear hB1 hI1 h2 h6 h9 hf hg hS
  obtain ⟨⟨a0, a1, a2, a3, a4, a5, a6⟩, ⟨b0, b1, b2, b3, b4, b5⟩, -⟩ := hst.out.cells
  cases hq : s.is
  · have hu : Aside0 (isB c.regs fs c.glob c.slots preds blk x s = false) := ⟨by unfold isB; rw [hq]; rfl⟩
    go_wp2
    go_ret
    rw [hu.out]
    exact ⟨rfl, hst.out.hB⟩
  · have hd := Aside0.mk (dst ⟨hst.out.hg⟩ x A2 A6 c2 c6 s.d h0 h1)
    cases hdv : dstB c.regs x s.d
    · have hu : Aside0 (isB c.regs fs c.glob c.slots preds blk x s = false) := ⟨by unfold isB; rw [hq, hdv]; rfl⟩
      rw [hdv] at hd
      go_wp2_with fail
      (with_reducible refine hd.out.mono ?_)
      rintro e w2 ⟨rfl, hb2⟩
      have hst2 := Aside0.mk (hst.out.next hb2)
      clear hst hd hb2 a0 a1 a2 a3 a4 a5 a6 b0 b1 b2 b3 b4 b5
      go_wp2
      go_ret
      rw [hu.out]
      exact ⟨rfl, hst2.out.hB⟩
    · rw [hdv] at hd
      go_wp2_with fail
      (with_reducible refine hd.out.mono ?_)
      rintro e w2 ⟨rfl, hb2⟩
      have hst2 := Aside0.mk (hst.out.next hb2)
      clear hst hd hb2 a0 a1 a2 a3 a4 a5 a6 b0 b1 b2 b3 b4 b5
      obtain ⟨⟨a0, a1, a2, a3, a4, a5, a6⟩, ⟨b0, b1, b2, b3, b4, b5⟩, -⟩ := hst2.out.cells
      have hi := Aside0.mk (imm ⟨hst2.out.hg⟩ x A2 A6 c2 c6 s.i i0 i1 fs hn ⟨hst2.out.mf⟩)
      cases hiv : immB fs c.glob c.slots x s.i
      · have hu : Aside0 (isB c.regs fs c.glob c.slots preds blk x s = false) := ⟨by unfold isB; rw [hq, hdv, hiv]; rfl⟩
        rw [hiv] at hi
        go_wp2_with fail
        (with_reducible refine hi.out.mono ?_)
        rintro e w3 ⟨rfl, hb3⟩
        have hst3 := Aside0.mk (hst2.out.next hb3)
        clear hst2 hi hb3 a0 a1 a2 a3 a4 a5 a6 b0 b1 b2 b3 b4 b5
        go_wp2
        go_ret
        rw [hu.out]
        exact ⟨rfl, hst3.out.hB⟩
      · rw [hiv] at hi
        go_wp2_with fail
        (with_reducible refine hi.out.mono ?_)
        rintro e w3 ⟨rfl, hb3⟩
        have hst3 := Aside0.mk (hst2.out.next hb3)
        clear hst2 hi hb3 a0 a1 a2 a3 a4 a5 a6 b0 b1 b2 b3 b4 b5
        obtain ⟨⟨a0, a1, a2, a3, a4, a5, a6⟩, ⟨b0, b1, b2, b3, b4, b5⟩, -⟩ := hst3.out.cells
        have hun : Aside0 (isB c.regs fs c.glob c.slots preds blk x s = (!(decide (0 ≤ s.n) && (x.f2.length : Int) != s.n) && ((x.f2.all fun r => wi r 0 (c.regs - 1)) && (!(s.a != wi x.f4 1 19 || (!s.a && x.f4 != 0)) && (!((s.wd && x.f5 != 1 && x.f5 != 4) || (!s.wd && x.f5 != 0)) && (if s.p = true then (x.f2.length == x.f6.length && x.f6 == preds.getD blk []) else x.f6.length == 0)))))) := ⟨by unfold isB; rw [hq, hdv, hiv]; rfl⟩
        clear hq hdv hiv
        by_cases hx : 0 ≤ s.n ∧ (x.f2.length : Int) ≠ s.n
        · have hu : Aside0 (isB c.regs fs c.glob c.slots preds blk x s = false) := ⟨by rw [hun.out]; simp [hx.1, hx.2]⟩
          obtain ⟨hx1, hx2⟩ := hx
          have hx3 : ((x.f2.length : Int) == s.n) = false := by simpa using hx2
          have hx4 : ((x.f2.length : Int) != s.n) = true := by simpa using hx2
          clear hx2 hun
          go_wp2
          go_ret
          rw [hu.out]
          exact ⟨rfl, hst3.out.hB⟩
        · have hu : Aside0 (isB c.regs fs c.glob c.slots preds blk x s = ((x.f2.all fun r => wi r 0 (c.regs - 1)) && (!(s.a != wi x.f4 1 19 || (!s.a && x.f4 != 0)) && (!((s.wd && x.f5 != 1 && x.f5 != 4) || (!s.wd && x.f5 != 0)) && (if s.p = true then (x.f2.length == x.f6.length && x.f6 == preds.getD blk []) else x.f6.length == 0))))) := ⟨by
            rw [hun.out]
            have : (decide (0 ≤ s.n) && (x.f2.length : Int) != s.n) = false := by
              rw [← Bool.not_eq_true]
              intro h
              apply hx
              simpa using h
            rw [this]
            rfl⟩
          clear hun
          have hx : s.n < 0 ∨ (0 ≤ s.n ∧ ((x.f2.length : Int) == s.n) = true ∧ ((x.f2.length : Int) != s.n) = false) := by
            by_cases h : 0 ≤ s.n
            · have h2 : (x.f2.length : Int) = s.n := by
                rcases Int.lt_trichotomy (x.f2.length : Int) s.n with h3 | h3 | h3
                · exact absurd ⟨h, by omega⟩ hx
                · exact h3
                · exact absurd ⟨h, by omega⟩ hx
              exact .inr ⟨h, by simp [h2], by simp [h2]⟩
            · exact .inl (by omega)
          generalize hR : (!(s.a != wi x.f4 1 19 || (!s.a && x.f4 != 0)) && (!((s.wd && x.f5 != 1 && x.f5 != 4) || (!s.wd && x.f5 != 0)) && (if s.p = true then (x.f2.length == x.f6.length && x.f6 == preds.getD blk []) else x.f6.length == 0))) = R at *
          have hR := Aside0.mk hR
          have hrg := Aside0.mk (fun r => reg ⟨hst3.out.hg⟩ r h0 h1)
          rcases hx with hx | ⟨hx, hx2, hx3⟩
          all_goals
            go_wp2
            go_loop [51] (fun i => ∃ j : Nat, j ≤ x.f2.length ∧ i = .int .i64 j ∧ Aside0 (((x.f2.take j).all fun r => wi r 0 (c.regs - 1)) = true)) (fun i => x.f2.length - (intOf i).toNat)
            case atStart => exact ⟨0, by omega, rfl, ⟨rfl⟩⟩
            case round =>
              obtain ⟨j, hj, rfl, ht⟩ := hrel
              by_cases hlt2 : j < x.f2.length
              · obtain ⟨ad, e, q0⟩ := Kd.at_int hst3.out.m2 j (by omega) (by omega)
                cases e
                simp only [Int.toNat_natCast] at q0
                have hstp := all_take (p := fun t => wi t 0 (c.regs - 1)) hlt2
                have hno := all_no (p := fun t => wi t 0 (c.regs - 1)) hlt2
                have hqq := hrg.out (rd x.f2 j)
                generalize rd x.f2 (j : Int) = y at *
                try dsimp only at hstp hno
                cases hv : wi y 0 (c.regs - 1)
                · rw [hv] at hqq hno
                  have hend : Aside0 (isB c.regs fs c.glob c.slots preds blk x s = false) := ⟨by rw [hu.out, hno rfl]; rfl⟩
                  have hqq := Aside0.mk hqq
                  clear hstp hno hrg hu
                  go_wp2_with ((with_reducible refine hqq.out.mono ?_); rintro e w' ⟨rfl, rfl⟩)
                  go_ret
                  rw [hend.out]
                  exact ⟨rfl, hst3.out.hB⟩
                · rw [hv] at hqq hstp
                  have ht2 : Aside0 (((x.f2.take (j + 1)).all fun r => wi r 0 (c.regs - 1)) = true) := ⟨by rw [hstp, ht.out]; rfl⟩
                  have hqq := Aside0.mk hqq
                  clear hstp hno hrg ht hu
                  go_wp2_with ((with_reducible refine hqq.out.mono ?_); rintro e w' ⟨rfl, rfl⟩)
                  go_round
                  case rel => exact ⟨j + 1, by omega, by go_num, ht2⟩
                  case measure => simp [intOf]; omega
              · obtain rfl : j = x.f2.length := by omega
                have ht' := ht.out
                rw [List.take_length] at ht'
                have hend : Aside0 (isB c.regs fs c.glob c.slots preds blk x s = R) := ⟨by rw [hu.out, ht']; rfl⟩
                clear ht ht' hu hrg
                go_upto_region 10 with (fail)
                go_cut [75] (fun s75 wx => s75 = .bool (s.a != wi x.f4 1 19 || (!s.a && x.f4 != 0)) ∧ Aside0 (∃ n, wx = w3.drewN n))
                case first =>
                  have hwq := Aside0.mk (fun w => within x.f4 1 19 w)
                  clear hR
                  cases hsa : s.a
                  all_goals
                    cases hwa : wi x.f4 1 19
                  all_goals
                    rw [hwa] at hwq
                    rw [hsa] at b3
                    cases h40b : (x.f4 != 0)
                  all_goals
                    go_quiet ((go_at_call 42; exact Calls.quiet_of_same ((hwq.out _).mono fun _ _ h => ⟨h.1, h.2.symm⟩)))
                    go_wp2_with fail
                    go_meet
                    exact ⟨by rw [hsa, hwa, h40b]; rfl, ⟨_, rfl⟩⟩
                case rest =>
                  obtain ⟨rfl, hdr⟩ := hcut
                  obtain ⟨nd, rfl⟩ := hdr.out
                  have hst4 := Aside0.mk (hst3.out.next (bdn (Below.refl _ _) nd))
                  clear hst3 a0 a1 a2 a3 a4 a5 a6 b0 b1 b2 b3 b4 b5 hdr
                  generalize w3.drewN nd = w4 at *
                  obtain ⟨⟨a0, a1, a2, a3, a4, a5, a6⟩, ⟨b0, b1, b2, b3, b4, b5⟩, -⟩ := hst4.out.cells
                  generalize (s.a != wi x.f4 1 19 || (!s.a && x.f4 != 0)) = C at *
                  cases C
                  · go_upto_region 12 with (fail)
                    go_cut [97] (fun s97 wx => s97 = .bool ((s.wd && x.f5 != 1 && x.f5 != 4) || (!s.wd && x.f5 != 0)) ∧ w4 = wx)
                    case first =>
                      clear hR
                      cases hwd : s.wd
                      all_goals
                        rw [hwd] at b4
                        cases h51 : (x.f5 != 1)
                      all_goals
                        cases h54 : (x.f5 != 4)
                      all_goals
                        cases h50 : (x.f5 != 0)
                      all_goals
                        go_wp2_with fail
                        go_meet
                        exact ⟨by rw [hwd, h51, h54, h50]; rfl, rfl⟩
                    case rest =>
                      obtain ⟨rfl, rfl⟩ := hcut
                      generalize ((s.wd && x.f5 != 1 && x.f5 != 4) || (!s.wd && x.f5 != 0)) = D at *
                      cases D
                      · have hRu : Aside0 (R = (if s.p = true then (x.f2.length == x.f6.length && x.f6 == preds.getD blk []) else x.f6.length == 0)) := ⟨by rw [← hR.out]; rfl⟩
                        clear hR
                        have hc9 : w4.cell? ⟨g, 9, none⟩ = some (.slice A9 preds.length c9) := by rw [← hw9.out]; exact (blk_cell hst4.out.hg 9).trans rfl
                        obtain ⟨ad9, A9', c9', e9, q9, l9, m9⟩ := atL hst4.out.m9 blk hb
                        cases e9
                        have m9 := Aside0.mk m9
                        generalize preds.getD blk [] = pr at *
                        have hx6 : ((x.f6.length : Int) == 0) = (x.f6.length == 0) := by rw [Bool.eq_iff_iff]; simp
                        have hx6' := Aside0.mk hx6
                        clear hx6
                        cases hp : s.p
                        · have hRv : Aside0 (R = (x.f6.length == 0)) := ⟨by rw [hRu.out, hp]; rfl⟩
                          rw [hp] at b5
                          clear hRu
                          go_wp2
                          go_ret
                          rw [hend.out, hRv.out, ← hx6'.out]
                          exact ⟨rfl, hst4.out.hB⟩
                        · rw [hp] at b5
                          by_cases hlen : x.f2.length = x.f6.length
                          · have hRv : Aside0 (R = (x.f6 == pr)) := ⟨by rw [hRu.out, if_pos hp]; simp [hlen]⟩
                            have hl1 : ((x.f2.length : Int) == (x.f6.length : Int)) = true := by simp [hlen]
                            have hl2 : (x.f2.length == x.f6.length) = true := by simp [hlen]
                            clear hRu hlen
                            go_wp2
                            go_quiet ((go_at_call 63; exact Calls.quiet_of ((equal ⟨Kd.C_below hst4.out.m6 (bdn (Below.refl _ _) _)⟩ ⟨Kd.C_below m9.out (bdn (Below.refl _ _) _)⟩ l6 l9).mono fun _ _ h => ⟨h.1, h.2.out⟩)))
                            go_wp2
                            go_ret
                            rw [hend.out, hRv.out]
                            exact ⟨rfl, bdn hst4.out.hB _⟩
                          · have hRv : Aside0 (R = false) := ⟨by rw [hRu.out, if_pos hp]; simp [hlen]⟩
                            have hl1 : ((x.f2.length : Int) == (x.f6.length : Int)) = false := by simp; omega
                            have hl2 : (x.f2.length == x.f6.length) = false := by simp [hlen]
                            clear hRu hlen
                            go_wp2
                            go_quiet (fail)
                            go_wp2
                            go_ret
                            rw [hend.out, hRv.out]
                            exact ⟨rfl, bdn hst4.out.hB _⟩
                      · have hRf : Aside0 (R = false) := ⟨by rw [← hR.out]; rfl⟩
                        clear hR
                        go_wp2
                        go_ret
                        rw [hend.out, hRf.out]
                        exact ⟨rfl, hst4.out.hB⟩
                  · have hRf : Aside0 (R = false) := ⟨by rw [← hR.out]; rfl⟩
                    clear hR
                    go_wp2
                    go_ret
                    rw [hend.out, hRf.out]
                    exact ⟨rfl, hst4.out.hB⟩
end Go.Proofs.Ytidhkicpandmbaa.IrA
