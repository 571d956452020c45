/- The program's machine: fetch: an instruction. -/
import Derived.Test.YtbhkfdjofopfkaaMaC
import Derived.Test.YtbhkfdjofopfkaaLex
namespace Go.Proofs.Ytbhkfdjofopfkaa.MemA
open Go.RowKit Go.Proofs.YtbhkfdjofopfkaaW.PrintWords Go.Proofs.YtbhkfdjofopfkaaW.PrintLast
set_option linter.unusedVariables false
set_option linter.unusedSimpArgs false
/-- A byte of a string; the word whose bytes lie from a place on. -/
def gb (c : ByteArray) (n : Nat) : Int := if h : n < c.size then (c[n].toNat : Int) else 0
def cw (c : ByteArray) (n : Nat) : Int := gb c n + 256 * gb c (n + 1) + 65536 * gb c (n + 2) + 16777216 * gb c (n + 3)
theorem gb_bd (c : ByteArray) (n : Nat) : 0 ≤ gb c n ∧ gb c n ≤ 255 := by
  unfold gb; split
  · have := c[n].toNat_lt; omega
  · omega
theorem cw_bd (c : ByteArray) (n : Nat) : 0 ≤ cw c n ∧ cw c n < 4294967296 := by
  have := gb_bd c n; have := gb_bd c (n + 1); have := gb_bd c (n + 2); have := gb_bd c (n + 3)
  unfold cw; omega
theorem gb_ext (c : ByteArray) (n j : Nat) (hj : n + 4 ≤ c.size) (hj4 : j < 4) (h : j < (c.extract n (n + 4)).size) : (((c.extract n (n + 4))[j]'h).toNat : Int) = gb c (n + j) := by
  rw [ByteArray.getElem_extract]
  unfold gb
  rw [dif_pos (by omega)]
theorem wrd (y0 y1 y2 y3 : Int) (a0 : 0 ≤ y0 ∧ y0 ≤ 255) (a1 : 0 ≤ y1 ∧ y1 ≤ 255) (a2 : 0 ≤ y2 ∧ y2 ≤ 255) (a3 : 0 ≤ y3 ∧ y3 ≤ 255) :
    bits BinOp.or IntKind.u32 (bits BinOp.or IntKind.u32 (bits BinOp.or IntKind.u32 (IntKind.u32.wrap y0) (IntKind.u32.wrap (IntKind.u32.wrap y1 * 256))) (IntKind.u32.wrap (IntKind.u32.wrap y2 * 65536))) (IntKind.u32.wrap (IntKind.u32.wrap y3 * 16777216)) = y0 + 256 * y1 + 65536 * y2 + 16777216 * y3 := by
  have e : ∀ z : Int, 0 ≤ z → z < 4294967296 → IntKind.u32.wrap z = z := fun z h0 h1 => by show z % 4294967296 = z; omega
  rw [e y0 (by omega) (by omega), e y1 (by omega) (by omega), e y2 (by omega) (by omega), e y3 (by omega) (by omega), e (y1 * 256) (by omega) (by omega), e (y2 * 65536) (by omega) (by omega), e (y3 * 16777216) (by omega) (by omega)]
  rw [u32_or8 y0 (y1 * 256) (by omega) (by omega) (by omega) (by omega) (by omega), u32_or16 _ (y2 * 65536) (by omega) (by omega) (by omega) (by omega) (by omega), u32_or24 _ (y3 * 16777216) (by omega) (by omega) (by omega) (by omega) (by omega)]
  omega
set_option maxHeartbeats 4000000 in
set_option maxRecDepth 100000 in
theorem fetch_yes {w : World} {base g gm h : Nat} {v : Value} {s : Mc} (m : Aside0 (MW w base g gm h v s)) (n : Nat) (hn : s.pc = (n : Int)) (h4 : n + 4 ≤ s.code.size) (hm : n % 4 = 0) (op d a b i er : Int)
    (hd : Aside0 (∀ W, Calls Try.prog 49 #[.int .u32 (cw s.code n)] W fun e w' => e = .returned (.tuple #[insV op d a b i, .int .i64 er]) ∧ Below W.heap.size W w')) :
    Calls Try.prog 32 #[PM g] w fun e w' => e = .returned (.tuple #[insV op d a b i, .bool (er == (0 : Int))]) ∧ Below w.heap.size w w' := by
  have hu67 := Try.underlying67
  have c0 : w.cell? ⟨g, 0, none⟩ = some (.string s.code) := (m.out.c_hd 0 (by omega)).trans rfl
  have c22 : w.cell? ⟨g, 22, none⟩ = some (.int .i64 s.pc) := (m.out.c_tl 0).trans rfl
  have hg : g < w.heap.size := by
    have := m.out.blk
    rcases Nat.lt_or_ge g w.heap.size with q | q
    · exact q
    · rw [Array.getElem?_eq_none (by simpa using q)] at this; simp at this
  have hc := m.out.ok.cl
  have e0 : Aside0 (∀ h, ((s.code.extract n (n + 4))[0]'h).toNat = (gb s.code n : Int)) := ⟨fun h => gb_ext _ n 0 h4 (by omega) h⟩
  have e1 : Aside0 (∀ h, ((s.code.extract n (n + 4))[1]'h).toNat = (gb s.code (n + 1) : Int)) := ⟨fun h => gb_ext _ n 1 h4 (by omega) h⟩
  have e2 : Aside0 (∀ h, ((s.code.extract n (n + 4))[2]'h).toNat = (gb s.code (n + 2) : Int)) := ⟨fun h => gb_ext _ n 2 h4 (by omega) h⟩
  have e3 : Aside0 (∀ h, ((s.code.extract n (n + 4))[3]'h).toNat = (gb s.code (n + 3) : Int)) := ⟨fun h => gb_ext _ n 3 h4 (by omega) h⟩
  have hcw : Aside0 (gb s.code n + 256 * gb s.code (n + 1) + 65536 * gb s.code (n + 2) + 16777216 * gb s.code (n + 3) = cw s.code n) := ⟨rfl⟩
  rw [hn] at c22
  generalize s.code = c at *
  clear m hn
  have q0 : (n : Int) < (c.size : Int) := by omega
  have q1 : ¬ ((c.size : Int) ≤ (n : Int)) := by omega
  have q2 : (n : Int) % 4 = 0 := by omega
  have q3 : (n : Int) + 4 ≤ (c.size : Int) := by omega
  have q4 : IntKind.i64.wrap ((n : Int) + 4) = (n : Int) + 4 := IntWalk.i64_in _ (by omega)
  go_enter Try.func32, Try.ntmps32
  go_upto_region 4 with (fail)
  have hb1 : Aside0 (Below w.heap.size w (w.alloc (.cells #[.int .i64 0, .int .i64 0, .int .i64 0, .int .i64 0, .int .i32 0] 67))) := ⟨below_alloc (Below.refl _ _) _⟩
  have hr1 : Aside0 ((w.alloc (.cells #[.int .i64 0, .int .i64 0, .int .i64 0, .int .i64 0, .int .i32 0] 67)).heap[w.heap.size]? = some (.cells #[.int .i64 0, .int .i64 0, .int .i64 0, .int .i64 0, .int .i32 0] 67 (0, 0))) := ⟨blk_new w _⟩
  have d22 := (Below.cell hb1.out (p := ⟨g, 22, none⟩) hg).trans c22
  clear c22 c0
  generalize w.alloc (.cells #[.int .i64 0, .int .i64 0, .int .i64 0, .int .i64 0, .int .i32 0] 67) = W1 at *
  go_quiet (fail)
  have hb2 : Aside0 (Below w.heap.size w (W1.drewN nq)) := ⟨by have := hb1.out; exact below_drewN this _⟩
  have hr2 : Aside0 ((W1.drewN nq).heap[w.heap.size]? = some (.cells #[.int .i64 0, .int .i64 0, .int .i64 0, .int .i64 0, .int .i32 0] 67 (0, 0))) := ⟨blk_drewN hr1.out _⟩
  generalize W1.drewN nq = W2 at *
  clear hb1 hr1 d22
  have hq : (c.extract n (n + 4)).size = 4 := by simp [ByteArray.size_extract]; omega
  generalize c.extract n (n + 4) = q at *
  have hG0 := Aside0.mk (gb_bd c n)
  have hG1 := Aside0.mk (gb_bd c (n + 1))
  have hG2 := Aside0.mk (gb_bd c (n + 2))
  have hG3 := Aside0.mk (gb_bd c (n + 3))
  have j0 : (0 : Int) < (q.size : Int) := by omega
  have j1 : (1 : Int) < (q.size : Int) := by omega
  have j2 : (2 : Int) < (q.size : Int) := by omega
  have j3 : (3 : Int) < (q.size : Int) := by omega
  have i0 : 0 < q.size := by omega
  have i1 : 1 < q.size := by omega
  have i2 : 2 < q.size := by omega
  have i3 : 3 < q.size := by omega
  clear q0 q1 q2 q3 q4 h4 hm
  go_upto_region 5 with (fail)
  refine wp_region_noPanic ?_
  refine Lex.region_lexY 18 (by kernel_rfl) (by kernel_rfl) (by decide) (by kernel_rfl) (fun _ _ _ _ _ h => h) ?_
  simp only [List.take_succ_cons, List.take_zero]
  iterate 18 (refine Lex.wpY_step _ (by rfl) (by intro w; go_simp; try with_reducible rfl) ?_; try simp only [Act.put, List.setIfInBounds_toArray, List.set_cons_zero, List.set_cons_succ])
  refine Lex.wpY_nil ?_
  refine wpAny_ready (rs := [18, 22]) (by kernel_rfl) (by simp) (AllReady.cons rfl (fun K hK => ?_) (AllReady.cons rfl (fun K hK => ?_) AllReady.nil))
  · go_simp
    rw [e0.out, e1.out, e2.out, e3.out, wrd _ _ _ _ hG0.out hG1.out hG2.out hG3.out, hcw.out]
    with_reducible refine (hd.out _).mono ?_
    rintro e w1 ⟨rfl, hb3⟩
    refine hK _ _ ?_
    clear hK K
    refine Lex.wpAny_lexN 19 3 3 (by kernel_rfl) (fun _ _ _ _ _ h => h) (by decide) (by kernel_rfl) ?_
    simp only [List.drop_succ_cons, List.drop_zero, List.take_succ_cons, List.take_zero]
    iterate 3 (refine Lex.wpY_step _ (by rfl) (by intro w; go_simp; try with_reducible rfl) ?_; try simp only [Act.put, List.setIfInBounds_toArray, List.set_cons_zero, List.set_cons_succ])
    refine Lex.wpY_nil ?_
    refine wpAny_ready (rs := [22]) (by kernel_rfl) (by simp) (AllReady.cons rfl (fun K hK => ?_) AllReady.nil)
    go_simp
    refine hK _ _ ?_
    clear hK K
    refine wpAny_ready (rs := [23]) (by kernel_rfl) (by simp) (AllReady.cons rfl (fun K hK => ?_) AllReady.nil)
    go_simp
    refine hK _ _ ?_
    clear hK K
    refine wpAny_ready (rs := [24]) (by kernel_rfl) (by simp) (AllReady.cons rfl (fun K hK => ?_) AllReady.nil)
    go_simp
    refine hK _ _ ?_
    clear hK K
    refine wpAny_done (by kernel_rfl) (NoPanic.normal ?_) _
    have hs2 : w.heap.size ≤ W2.heap.size := hb2.out.size
    have hs3 : W2.heap.size ≤ w1.heap.size := hb3.size
    have hb4 : Below w.heap.size w w1 := below_step (below_drew hb2.out) hb3
    have hbF : Aside0 (Below w.heap.size w (w1.alloc (.cells #[.int .i64 op, .int .i64 d, .int .i64 a, .int .i64 b, .int .i32 i] 67))) := ⟨below_alloc hb4 _⟩
    have hpF : Aside0 ((w1.alloc (.cells #[.int .i64 op, .int .i64 d, .int .i64 a, .int .i64 b, .int .i32 i] 67)).heap[w1.heap.size]? = some (.cells #[.int .i64 op, .int .i64 d, .int .i64 a, .int .i64 b, .int .i32 i] 67 (0, 0))) := ⟨blk_new w1 _⟩
    have hrF : Aside0 ((w1.alloc (.cells #[.int .i64 op, .int .i64 d, .int .i64 a, .int .i64 b, .int .i32 i] 67)).heap[w.heap.size]? = some (.cells #[.int .i64 0, .int .i64 0, .int .i64 0, .int .i64 0, .int .i32 0] 67 (0, 0))) := ⟨blk_alloc (blk_below (blk_drew hr2.out) hb3) _⟩
    generalize w1.alloc (.cells #[.int .i64 op, .int .i64 d, .int .i64 a, .int .i64 b, .int .i32 i] 67) = WF at *
    generalize w1.heap.size = pb at *
    clear hb3 hb4
    have y0 := (blk_cell hpF.out 0).trans (show _ = some (.int .i64 op) from rfl)
    have y1 := (blk_cell hpF.out 1).trans (show _ = some (.int .i64 d) from rfl)
    have y2 := (blk_cell hpF.out 2).trans (show _ = some (.int .i64 a) from rfl)
    have y3 := (blk_cell hpF.out 3).trans (show _ = some (.int .i64 b) from rfl)
    have y4 := (blk_cell hpF.out 4).trans (show _ = some (.int .i32 i) from rfl)
    have z0 := (blk_cell hrF.out 0).trans (show _ = some (.int .i64 0) from rfl)
    have z1 := (blk_cell hrF.out 1).trans (show _ = some (.int .i64 0) from rfl)
    have z2 := (blk_cell hrF.out 2).trans (show _ = some (.int .i64 0) from rfl)
    have z3 := (blk_cell hrF.out 3).trans (show _ = some (.int .i64 0) from rfl)
    have z4 := (blk_cell hrF.out 4).trans (show _ = some (.int .i32 0) from rfl)
    have v0 := blk_frozen hrF.out 0
    have v1 := blk_frozen hrF.out 1
    have v2 := blk_frozen hrF.out 2
    have v3 := blk_frozen hrF.out 3
    have v4 := blk_frozen hrF.out 4
    go_wp2_with fail
    exact bodyPost_ret (results_ct rfl _ _ w.heap.size 67 #[.int .i64 op, .int .i64 d, .int .i64 a, .int .i64 b, .int .i32 i] (0, 0) _ rfl (blk_put (blk_put (blk_put (blk_put (blk_put hrF.out 0 _ rfl) 1 _ rfl) 2 _ rfl) 3 _ rfl) 4 _ rfl) Try.underlying67 rfl (by kernel_rfl)) rfl ⟨rfl, below_set (below_set (below_set (below_set (below_set hbF.out (Nat.le_refl _)) (Nat.le_refl _)) (Nat.le_refl _)) (Nat.le_refl _)) (Nat.le_refl _)⟩
  · go_simp
    refine hK _ _ ?_
    clear hK K
    refine wpAny_ready (rs := [18]) (by kernel_rfl) (by simp) (AllReady.cons rfl (fun K hK => ?_) AllReady.nil)
    go_simp
    rw [e0.out, e1.out, e2.out, e3.out, wrd _ _ _ _ hG0.out hG1.out hG2.out hG3.out, hcw.out]
    with_reducible refine (hd.out _).mono ?_
    rintro e w1 ⟨rfl, hb3⟩
    refine hK _ _ ?_
    clear hK K
    refine Lex.wpAny_lexN 19 3 2 (by kernel_rfl) (fun _ _ _ _ _ h => h) (by decide) (by kernel_rfl) ?_
    simp only [List.drop_succ_cons, List.drop_zero, List.take_succ_cons, List.take_zero]
    iterate 3 (refine Lex.wpY_step _ (by rfl) (by intro w; go_simp; try with_reducible rfl) ?_; try simp only [Act.put, List.setIfInBounds_toArray, List.set_cons_zero, List.set_cons_succ])
    refine Lex.wpY_nil ?_
    have hx : w1.heap[W2.heap.size]? = some (.cells #[.int .i64 0, .int .i64 0, .int .i64 0, .int .i64 0, .int .i32 0] 67 (0, 0)) := (by with_reducible exact blk_below (blk_drew (blk_new W2 (.cells #[.int .i64 0, .int .i64 0, .int .i64 0, .int .i64 0, .int .i32 0] 67))) hb3)
    have f0 := blk_frozen hx 0
    have f1 := blk_frozen hx 1
    have f2 := blk_frozen hx 2
    have f3 := blk_frozen hx 3
    have f4 := blk_frozen hx 4
    have c0 := (blk_cell hx 0).trans (show _ = some (.int .i64 0) from rfl)
    have c1 := (blk_cell hx 1).trans (show _ = some (.int .i64 0) from rfl)
    have c2 := (blk_cell hx 2).trans (show _ = some (.int .i64 0) from rfl)
    have c3 := (blk_cell hx 3).trans (show _ = some (.int .i64 0) from rfl)
    have c4 := (blk_cell hx 4).trans (show _ = some (.int .i32 0) from rfl)
    refine wpAny_ready (rs := [23]) (by kernel_rfl) (by simp) (AllReady.cons rfl (fun K hK => ?_) AllReady.nil)
    go_simp
    refine hK _ _ ?_
    clear hK K
    refine wpAny_ready (rs := [24]) (by kernel_rfl) (by simp) (AllReady.cons rfl (fun K hK => ?_) AllReady.nil)
    go_simp
    refine hK _ _ ?_
    clear hK K
    refine wpAny_done (by kernel_rfl) (NoPanic.normal ?_) _
    have hs2 : w.heap.size ≤ W2.heap.size := hb2.out.size
    have hb4 : Below w.heap.size w w1 := below_step (below_drew (below_alloc hb2.out _)) hb3
    have hr4 := blk_below (blk_drew (blk_alloc hr2.out (.cells #[.int .i64 0, .int .i64 0, .int .i64 0, .int .i64 0, .int .i32 0] 67))) hb3
    have hne : w.heap.size ≠ W2.heap.size := Nat.ne_of_lt (blk_lt hr2.out)
    have hpF : Aside0 ((((((w1.setCell ⟨W2.heap.size, 0, none⟩ (.int .i64 op)).setCell ⟨W2.heap.size, 1, none⟩ (.int .i64 d)).setCell ⟨W2.heap.size, 2, none⟩ (.int .i64 a)).setCell ⟨W2.heap.size, 3, none⟩ (.int .i64 b)).setCell ⟨W2.heap.size, 4, none⟩ (.int .i32 i)).heap[W2.heap.size]? = some (.cells #[.int .i64 op, .int .i64 d, .int .i64 a, .int .i64 b, .int .i32 i] 67 (0, 0))) := ⟨blk_put (blk_put (blk_put (blk_put (blk_put hx 0 _ rfl) 1 _ rfl) 2 _ rfl) 3 _ rfl) 4 _ rfl⟩
    have hrF : Aside0 ((((((w1.setCell ⟨W2.heap.size, 0, none⟩ (.int .i64 op)).setCell ⟨W2.heap.size, 1, none⟩ (.int .i64 d)).setCell ⟨W2.heap.size, 2, none⟩ (.int .i64 a)).setCell ⟨W2.heap.size, 3, none⟩ (.int .i64 b)).setCell ⟨W2.heap.size, 4, none⟩ (.int .i32 i)).heap[w.heap.size]? = some (.cells #[.int .i64 0, .int .i64 0, .int .i64 0, .int .i64 0, .int .i32 0] 67 (0, 0))) := ⟨blk_far (p := ⟨W2.heap.size, 4, none⟩) (blk_far (p := ⟨W2.heap.size, 3, none⟩) (blk_far (p := ⟨W2.heap.size, 2, none⟩) (blk_far (p := ⟨W2.heap.size, 1, none⟩) (blk_far (p := ⟨W2.heap.size, 0, none⟩) hr4 hne _) hne _) hne _) hne _) hne _⟩
    have hbF : Aside0 (Below w.heap.size w (((((w1.setCell ⟨W2.heap.size, 0, none⟩ (.int .i64 op)).setCell ⟨W2.heap.size, 1, none⟩ (.int .i64 d)).setCell ⟨W2.heap.size, 2, none⟩ (.int .i64 a)).setCell ⟨W2.heap.size, 3, none⟩ (.int .i64 b)).setCell ⟨W2.heap.size, 4, none⟩ (.int .i32 i))) := ⟨below_set (below_set (below_set (below_set (below_set hb4 hs2) hs2) hs2) hs2) hs2⟩
    generalize ((((w1.setCell ⟨W2.heap.size, 0, none⟩ (.int .i64 op)).setCell ⟨W2.heap.size, 1, none⟩ (.int .i64 d)).setCell ⟨W2.heap.size, 2, none⟩ (.int .i64 a)).setCell ⟨W2.heap.size, 3, none⟩ (.int .i64 b)).setCell ⟨W2.heap.size, 4, none⟩ (.int .i32 i) = WF at *
    clear hb3 hb4 hr4 c0 c1 c2 c3 c4 f0 f1 f2 f3 f4 hx
    generalize W2.heap.size = pb at *
    have y0 := (blk_cell hpF.out 0).trans (show _ = some (.int .i64 op) from rfl)
    have y1 := (blk_cell hpF.out 1).trans (show _ = some (.int .i64 d) from rfl)
    have y2 := (blk_cell hpF.out 2).trans (show _ = some (.int .i64 a) from rfl)
    have y3 := (blk_cell hpF.out 3).trans (show _ = some (.int .i64 b) from rfl)
    have y4 := (blk_cell hpF.out 4).trans (show _ = some (.int .i32 i) from rfl)
    have z0 := (blk_cell hrF.out 0).trans (show _ = some (.int .i64 0) from rfl)
    have z1 := (blk_cell hrF.out 1).trans (show _ = some (.int .i64 0) from rfl)
    have z2 := (blk_cell hrF.out 2).trans (show _ = some (.int .i64 0) from rfl)
    have z3 := (blk_cell hrF.out 3).trans (show _ = some (.int .i64 0) from rfl)
    have z4 := (blk_cell hrF.out 4).trans (show _ = some (.int .i32 0) from rfl)
    have v0 := blk_frozen hrF.out 0
    have v1 := blk_frozen hrF.out 1
    have v2 := blk_frozen hrF.out 2
    have v3 := blk_frozen hrF.out 3
    have v4 := blk_frozen hrF.out 4
    go_wp2_with fail
    exact bodyPost_ret (results_ct rfl _ _ w.heap.size 67 #[.int .i64 op, .int .i64 d, .int .i64 a, .int .i64 b, .int .i32 i] (0, 0) _ rfl (blk_put (blk_put (blk_put (blk_put (blk_put hrF.out 0 _ rfl) 1 _ rfl) 2 _ rfl) 3 _ rfl) 4 _ rfl) Try.underlying67 rfl (by kernel_rfl)) rfl ⟨rfl, below_set (below_set (below_set (below_set (below_set hbF.out (Nat.le_refl _)) (Nat.le_refl _)) (Nat.le_refl _)) (Nat.le_refl _)) (Nat.le_refl _)⟩
end Go.Proofs.Ytbhkfdjofopfkaa.MemA
