/- The reference's machine: fetched. -/
import Derived.Test.YtbhkfdjofopfkaaRaA
namespace Go.Proofs.Ytbhkfdjofopfkaa.MemA
open Go.RowKit Go.Proofs.YtbhkfdjofopfkaaW.PrintWords Go.Proofs.YtbhkfdjofopfkaaW.PrintLast
set_option linter.unusedVariables false
set_option linter.unusedSimpArgs false
set_option maxHeartbeats 4000000 in
set_option maxRecDepth 100000 in
theorem rfetch_no {w : World} {base g gm h : Nat} {v : Value} {s : Mc} (m : Aside0 (RW w base g gm h v s)) (ho : offB s.code.size s.pc = true) :
    Calls Try.prog 40 #[PM g] w fun e w' => e = .returned (.tuple #[insV 0 0 0 0 0, .bool false]) ∧ Below w.heap.size w w' := by
  have hu67 := Try.underlying67
  have c0 : w.cell? ⟨g, 0, none⟩ = some (.string s.code) := (m.out.c_hd 0 (by omega)).trans rfl
  have c23 : w.cell? ⟨g, 23, none⟩ = some (.int .i64 s.pc) := (m.out.c_tl 0).trans rfl
  have hg := blk_lt m.out.blk
  have hp := m.out.ok.p0
  have hc := m.out.ok.cl
  generalize s.code = c at *
  generalize s.pc = p at *
  clear m
  have hb : Aside0 (Below w.heap.size w (w.alloc (.cells #[.int .i64 0, .int .i64 0, .int .i64 0, .int .i64 0, .int .i32 0] 67))) := ⟨below_alloc (Below.refl _ _) _⟩
  have hr : Aside0 ((w.alloc (.cells #[.int .i64 0, .int .i64 0, .int .i64 0, .int .i64 0, .int .i32 0] 67)).heap[w.heap.size]? = some (.cells #[.int .i64 0, .int .i64 0, .int .i64 0, .int .i64 0, .int .i32 0] 67 (0, 0))) := ⟨blk_new w _⟩
  by_cases q0 : p < 0
  · have b0 : decide (p < 0) = true := decide_eq_true q0
    clear ho
    go_enter Try.func40, Try.ntmps40
    go_upto_region 1 with (fail)
    generalize w.alloc (.cells #[.int .i64 0, .int .i64 0, .int .i64 0, .int .i64 0, .int .i32 0] 67) = W at *
    have d0 := (Below.cell hb.out (p := ⟨g, 0, none⟩) hg).trans c0
    have d23 := (Below.cell hb.out (p := ⟨g, 23, none⟩) hg).trans c23
    go_quiet (fail)
    have hrW : Aside0 ((W.drewN nq).heap[w.heap.size]? = some (.cells #[.int .i64 0, .int .i64 0, .int .i64 0, .int .i64 0, .int .i32 0] 67 (0, 0))) := ⟨hr.out⟩
    have hbW : Aside0 (Below w.heap.size w (W.drewN nq)) := ⟨below_drewN hb.out _⟩
    generalize W.drewN nq = W2 at *
    have z0 := (blk_cell hrW.out 0).trans (show _ = some (.int .i64 0) from rfl)
    have z1 := (blk_cell hrW.out 1).trans (show _ = some (.int .i64 0) from rfl)
    have z2 := (blk_cell hrW.out 2).trans (show _ = some (.int .i64 0) from rfl)
    have z3 := (blk_cell hrW.out 3).trans (show _ = some (.int .i64 0) from rfl)
    have z4 := (blk_cell hrW.out 4).trans (show _ = some (.int .i32 0) from rfl)
    have f0 := blk_frozen hrW.out 0
    have f1 := blk_frozen hrW.out 1
    have f2 := blk_frozen hrW.out 2
    have f3 := blk_frozen hrW.out 3
    have f4 := blk_frozen hrW.out 4
    go_wp2_with fail
    exact bodyPost_ret (results_ct rfl _ _ w.heap.size 67 #[.int .i64 0, .int .i64 0, .int .i64 0, .int .i64 0, .int .i32 0] (0, 0) _ rfl (blk_put (blk_put (blk_put (blk_put (blk_put hrW.out 0 _ rfl) 1 _ rfl) 2 _ rfl) 3 _ rfl) 4 _ rfl) Try.underlying67 rfl (by kernel_rfl)) rfl ⟨rfl, below_set (below_set (below_set (below_set (below_set hbW.out (Nat.le_refl _)) (Nat.le_refl _)) (Nat.le_refl _)) (Nat.le_refl _)) (Nat.le_refl _)⟩
  · have b0 : decide (p < 0) = false := decide_eq_false q0
    have q0' : 0 ≤ p := by omega
    by_cases q1 : p % 4 = 0
    · have q2 : (c.size : Int) ≤ p := by
        simp [offB, q0, q1] at ho
        omega
      have b1 : (p % 4 != 0) = false := by rw [q1]; rfl
      have b2 : decide ((c.size : Int) ≤ p) = true := decide_eq_true q2
      clear ho
      go_enter Try.func40, Try.ntmps40
      go_upto_region 1 with (fail)
      generalize w.alloc (.cells #[.int .i64 0, .int .i64 0, .int .i64 0, .int .i64 0, .int .i32 0] 67) = W at *
      have d0 := (Below.cell hb.out (p := ⟨g, 0, none⟩) hg).trans c0
      have d23 := (Below.cell hb.out (p := ⟨g, 23, none⟩) hg).trans c23
      go_quiet (fail)
      have hrW : Aside0 ((W.drewN nq).heap[w.heap.size]? = some (.cells #[.int .i64 0, .int .i64 0, .int .i64 0, .int .i64 0, .int .i32 0] 67 (0, 0))) := ⟨hr.out⟩
      have hbW : Aside0 (Below w.heap.size w (W.drewN nq)) := ⟨below_drewN hb.out _⟩
      generalize W.drewN nq = W2 at *
      have z0 := (blk_cell hrW.out 0).trans (show _ = some (.int .i64 0) from rfl)
      have z1 := (blk_cell hrW.out 1).trans (show _ = some (.int .i64 0) from rfl)
      have z2 := (blk_cell hrW.out 2).trans (show _ = some (.int .i64 0) from rfl)
      have z3 := (blk_cell hrW.out 3).trans (show _ = some (.int .i64 0) from rfl)
      have z4 := (blk_cell hrW.out 4).trans (show _ = some (.int .i32 0) from rfl)
      have f0 := blk_frozen hrW.out 0
      have f1 := blk_frozen hrW.out 1
      have f2 := blk_frozen hrW.out 2
      have f3 := blk_frozen hrW.out 3
      have f4 := blk_frozen hrW.out 4
      go_wp2_with fail
      exact bodyPost_ret (results_ct rfl _ _ w.heap.size 67 #[.int .i64 0, .int .i64 0, .int .i64 0, .int .i64 0, .int .i32 0] (0, 0) _ rfl (blk_put (blk_put (blk_put (blk_put (blk_put hrW.out 0 _ rfl) 1 _ rfl) 2 _ rfl) 3 _ rfl) 4 _ rfl) Try.underlying67 rfl (by kernel_rfl)) rfl ⟨rfl, below_set (below_set (below_set (below_set (below_set hbW.out (Nat.le_refl _)) (Nat.le_refl _)) (Nat.le_refl _)) (Nat.le_refl _)) (Nat.le_refl _)⟩
    · have b1 : (p % 4 != 0) = true := by simpa using q1
      clear ho
      go_enter Try.func40, Try.ntmps40
      go_upto_region 1 with (fail)
      generalize w.alloc (.cells #[.int .i64 0, .int .i64 0, .int .i64 0, .int .i64 0, .int .i32 0] 67) = W at *
      have d0 := (Below.cell hb.out (p := ⟨g, 0, none⟩) hg).trans c0
      have d23 := (Below.cell hb.out (p := ⟨g, 23, none⟩) hg).trans c23
      go_quiet (fail)
      have hrW : Aside0 ((W.drewN nq).heap[w.heap.size]? = some (.cells #[.int .i64 0, .int .i64 0, .int .i64 0, .int .i64 0, .int .i32 0] 67 (0, 0))) := ⟨hr.out⟩
      have hbW : Aside0 (Below w.heap.size w (W.drewN nq)) := ⟨below_drewN hb.out _⟩
      generalize W.drewN nq = W2 at *
      have z0 := (blk_cell hrW.out 0).trans (show _ = some (.int .i64 0) from rfl)
      have z1 := (blk_cell hrW.out 1).trans (show _ = some (.int .i64 0) from rfl)
      have z2 := (blk_cell hrW.out 2).trans (show _ = some (.int .i64 0) from rfl)
      have z3 := (blk_cell hrW.out 3).trans (show _ = some (.int .i64 0) from rfl)
      have z4 := (blk_cell hrW.out 4).trans (show _ = some (.int .i32 0) from rfl)
      have f0 := blk_frozen hrW.out 0
      have f1 := blk_frozen hrW.out 1
      have f2 := blk_frozen hrW.out 2
      have f3 := blk_frozen hrW.out 3
      have f4 := blk_frozen hrW.out 4
      go_wp2_with fail
      exact bodyPost_ret (results_ct rfl _ _ w.heap.size 67 #[.int .i64 0, .int .i64 0, .int .i64 0, .int .i64 0, .int .i32 0] (0, 0) _ rfl (blk_put (blk_put (blk_put (blk_put (blk_put hrW.out 0 _ rfl) 1 _ rfl) 2 _ rfl) 3 _ rfl) 4 _ rfl) Try.underlying67 rfl (by kernel_rfl)) rfl ⟨rfl, below_set (below_set (below_set (below_set (below_set hbW.out (Nat.le_refl _)) (Nat.le_refl _)) (Nat.le_refl _)) (Nat.le_refl _)) (Nat.le_refl _)⟩
/-- A word's upper bytes, in a string. -/
def upc (c : ByteArray) (n : Nat) : Nat → Int
  | 0 => 0
  | j + 1 => upc c n j * 256 + gb c (n + (3 - j))
theorem upc_cw (c : ByteArray) (n : Nat) : upc c n 4 = cw c n := by
  simp only [upc, cw]
  show (((0 * 256 + gb c (n + 3)) * 256 + gb c (n + 2)) * 256 + gb c (n + 1)) * 256 + gb c (n + 0) = _
  have e : gb c (n + 0) = gb c n := rfl
  omega
theorem upc_bd (c : ByteArray) (n : Nat) (j : Nat) (hj : j < 4) : 0 ≤ upc c n j ∧ upc c n j ≤ 16777215 := by
  have h3 := gb_bd c (n + 3)
  have h2 := gb_bd c (n + 2)
  have h1 := gb_bd c (n + 1)
  match j, hj with
  | 0, _ => simp [upc]
  | 1, _ => simp only [upc]; show 0 ≤ 0 * 256 + gb c (n + 3) ∧ 0 * 256 + gb c (n + 3) ≤ 16777215; omega
  | 2, _ => simp only [upc]; show 0 ≤ (0 * 256 + gb c (n + 3)) * 256 + gb c (n + 2) ∧ (0 * 256 + gb c (n + 3)) * 256 + gb c (n + 2) ≤ 16777215; omega
  | 3, _ => simp only [upc]; show 0 ≤ ((0 * 256 + gb c (n + 3)) * 256 + gb c (n + 2)) * 256 + gb c (n + 1) ∧ ((0 * 256 + gb c (n + 3)) * 256 + gb c (n + 2)) * 256 + gb c (n + 1) ≤ 16777215; omega
set_option maxHeartbeats 4000000 in
set_option maxRecDepth 100000 in
theorem rfetch_yes {w : World} {base g gm h : Nat} {v : Value} {s : Mc} (m : Aside0 (RW w base g gm h v s)) (n : Nat) (hn : s.pc = (n : Int)) (h4 : n + 4 ≤ s.code.size) (hm : n % 4 = 0) (op d a b i er : Int)
    (hd : Aside0 (∀ W, Calls Try.prog 57 #[.int .u32 (cw s.code n)] W fun e w' => e = .returned (.tuple #[insV op d a b i, .int .i64 er]) ∧ Below W.heap.size W w')) :
    Calls Try.prog 40 #[PM g] w fun e w' => e = .returned (.tuple #[insV op d a b i, .bool (er == (0 : Int))]) ∧ Below w.heap.size w w' := by
  have hu67 := Try.underlying67
  have c0 : w.cell? ⟨g, 0, none⟩ = some (.string s.code) := (m.out.c_hd 0 (by omega)).trans rfl
  have c23 : w.cell? ⟨g, 23, none⟩ = some (.int .i64 (n : Int)) := (m.out.c_tl 0).trans (by show some (Value.int .i64 s.pc) = _; rw [hn])
  have hg := blk_lt m.out.blk
  have hc := m.out.ok.cl
  generalize s.code = c at *
  clear m hn
  have hb : Aside0 (Below w.heap.size w (w.alloc (.cells #[.int .i64 0, .int .i64 0, .int .i64 0, .int .i64 0, .int .i32 0] 67))) := ⟨below_alloc (Below.refl _ _) _⟩
  have hr : Aside0 ((w.alloc (.cells #[.int .i64 0, .int .i64 0, .int .i64 0, .int .i64 0, .int .i32 0] 67)).heap[w.heap.size]? = some (.cells #[.int .i64 0, .int .i64 0, .int .i64 0, .int .i64 0, .int .i32 0] 67 (0, 0))) := ⟨blk_new w _⟩
  have b0 : decide ((n : Int) < 0) = false := decide_eq_false (by omega)
  have b1 : ((n : Int) % 4 != 0) = false := by simp; omega
  have b2 : decide ((c.size : Int) ≤ (n : Int)) = false := decide_eq_false (by omega)
  have b3 : decide (c.size ≤ n) = false := decide_eq_false (by omega)
  have hW := Aside0.mk (upc_cw c n)
  clear hm
  go_enter Try.func40, Try.ntmps40
  go_upto_region 1 with (fail)
  generalize w.alloc (.cells #[.int .i64 0, .int .i64 0, .int .i64 0, .int .i64 0, .int .i32 0] 67) = W at *
  have d0 := (Below.cell hb.out (p := ⟨g, 0, none⟩) hg).trans c0
  have d23 := (Below.cell hb.out (p := ⟨g, 23, none⟩) hg).trans c23
  go_quiet (fail)
  have hrW : Aside0 ((W.drewN nq).heap[w.heap.size]? = some (.cells #[.int .i64 0, .int .i64 0, .int .i64 0, .int .i64 0, .int .i32 0] 67 (0, 0))) := ⟨hr.out⟩
  have hbW : Aside0 (Below w.heap.size w (W.drewN nq)) := ⟨below_drewN hb.out _⟩
  have e0 : (W.drewN nq).cell? ⟨g, 0, none⟩ = some (.string c) := d0
  have e23 : (W.drewN nq).cell? ⟨g, 23, none⟩ = some (.int .i64 (n : Int)) := d23
  generalize W.drewN nq = W2 at *
  clear hb hr d0 d23 c0 c23 b0 b1 b2 b3
  replace e0 := Aside0.mk e0
  replace e23 := Aside0.mk e23
  go_wp2_with fail
  go_loopw [4, 5] (fun x i wr => ∃ j : Nat, j ≤ 4 ∧ i = .int .i64 (3 - j) ∧ x = .int .u32 (upc c n j) ∧ Aside0 (∃ q, wr = W2.drewN q)) (fun _ i _ => (intOf i + 1).toNat)
  case atStart => exact ⟨0, by omega, rfl, rfl, ⟨0, rfl⟩⟩
  case round =>
    obtain ⟨j, hj, rfl, rfl, hq⟩ := hrel
    obtain ⟨q, rfl⟩ := hq.out
    clear hq
    by_cases hl : j < 4
    · obtain ⟨k, hk⟩ : ∃ k, k = n + (3 - j) := ⟨_, rfl⟩
      have hu := upc_bd c n j hl
      have hkc : k < c.size := by omega
      have hst : Aside0 (upc c n (j + 1) = upc c n j * 256 + (c[k].toNat : Int)) := ⟨by show upc c n j * 256 + gb c (n + (3 - j)) = _; rw [← hk]; unfold gb; rw [dif_pos hkc]⟩
      generalize upc c n j = p at *
      obtain ⟨hu0, hu1⟩ := hu
      have hyb := c[k].toNat_lt
      have hor : bits .or .u32 (p * 256) (c[k].toNat : Int) = p * 256 + (c[k].toNat : Int) := bits_join .u32 32 (by decide) wraps_u32 8 (p * 256) _ (by omega) (by omega) (by omega) (by omega) (by omega) (by omega)
      have x0 := e0.out
      have x23 := e23.out
      have q6 : IntKind.i64.wrap ((n : Int) + (3 - (j : Int))) = (k : Int) := by rw [IntWalk.i64_in _ (by omega)]; omega
      have q7 : (n : Int) + (3 - (j : Int)) = (k : Int) := by omega
      have q4 : (k : Int) < (c.size : Int) := by omega
      clear hk
      go_wp2_with fail
      go_quiet (fail)
      go_wp2_with fail
      go_roundw
      case rel => exact ⟨j + 1, by omega, by congr 1; omega, by rw [hst.out], ⟨q + nq, rfl⟩⟩
      case measure => simp [intOf]; omega
    · obtain rfl : j = 4 := by omega
      rw [hW.out]
      go_upto_region 9 with (go_at_call 57; (with_reducible refine (hd.out _).mono ?_); rintro e w1 ⟨rfl, hb3⟩; replace hb3 := Aside0.mk hb3)
      have hb4 : Below w.heap.size w w1 := below_step (below_drewN hbW.out _) hb3.out
      have hbF : Aside0 (Below w.heap.size w (w1.alloc (.cells #[.int .i64 op, .int .i64 d, .int .i64 a, .int .i64 b, .int .i32 i] 67))) := ⟨below_alloc hb4 _⟩
      have hpF : Aside0 ((w1.alloc (.cells #[.int .i64 op, .int .i64 d, .int .i64 a, .int .i64 b, .int .i32 i] 67)).heap[w1.heap.size]? = some (.cells #[.int .i64 op, .int .i64 d, .int .i64 a, .int .i64 b, .int .i32 i] 67 (0, 0))) := ⟨blk_new w1 _⟩
      have hrF : Aside0 ((w1.alloc (.cells #[.int .i64 op, .int .i64 d, .int .i64 a, .int .i64 b, .int .i32 i] 67)).heap[w.heap.size]? = some (.cells #[.int .i64 0, .int .i64 0, .int .i64 0, .int .i64 0, .int .i32 0] 67 (0, 0))) := ⟨blk_alloc (blk_below (blk_drewN hrW.out q) hb3.out) _⟩
      generalize w1.alloc (.cells #[.int .i64 op, .int .i64 d, .int .i64 a, .int .i64 b, .int .i32 i] 67) = WF at *
      generalize w1.heap.size = pb at *
      clear hb3 hb4
      have y0 := (blk_cell hpF.out 0).trans (show _ = some (.int .i64 op) from rfl)
      have y1 := (blk_cell hpF.out 1).trans (show _ = some (.int .i64 d) from rfl)
      have y2 := (blk_cell hpF.out 2).trans (show _ = some (.int .i64 a) from rfl)
      have y3 := (blk_cell hpF.out 3).trans (show _ = some (.int .i64 b) from rfl)
      have y4 := (blk_cell hpF.out 4).trans (show _ = some (.int .i32 i) from rfl)
      have z0 := (blk_cell hrF.out 0).trans (show _ = some (.int .i64 0) from rfl)
      have z1 := (blk_cell hrF.out 1).trans (show _ = some (.int .i64 0) from rfl)
      have z2 := (blk_cell hrF.out 2).trans (show _ = some (.int .i64 0) from rfl)
      have z3 := (blk_cell hrF.out 3).trans (show _ = some (.int .i64 0) from rfl)
      have z4 := (blk_cell hrF.out 4).trans (show _ = some (.int .i32 0) from rfl)
      have v0 := blk_frozen hrF.out 0
      have v1 := blk_frozen hrF.out 1
      have v2 := blk_frozen hrF.out 2
      have v3 := blk_frozen hrF.out 3
      have v4 := blk_frozen hrF.out 4
      go_wp2_with fail
      exact bodyPost_ret (results_ct rfl _ _ w.heap.size 67 #[.int .i64 op, .int .i64 d, .int .i64 a, .int .i64 b, .int .i32 i] (0, 0) _ rfl (blk_put (blk_put (blk_put (blk_put (blk_put hrF.out 0 _ rfl) 1 _ rfl) 2 _ rfl) 3 _ rfl) 4 _ rfl) Try.underlying67 rfl (by kernel_rfl)) rfl ⟨rfl, below_set (below_set (below_set (below_set (below_set hbF.out (Nat.le_refl _)) (Nat.le_refl _)) (Nat.le_refl _)) (Nat.le_refl _)) (Nat.le_refl _)⟩
theorem rfetch_some {w : World} {base g gm h : Nat} {v : Value} {s : Mc} (m : Aside0 (RW w base g gm h v s)) {op : Int} {d a b : Nat} {i : Int} (hx : s.fet = some ⟨op, d, a, b, i⟩) :
    Calls Try.prog 40 #[PM g] w fun e w' => e = .returned (.tuple #[insV op d a b i, .bool true]) ∧ Below w.heap.size w w' := by
  obtain ⟨h1, h2⟩ := Mc.fet_on hx
  obtain ⟨p0, p1, p2, p3⟩ := off_out h1 m.out.ok.c4
  obtain ⟨c0, c1⟩ := cw_bd s.code s.pc.toNat
  exact rfetch_yes m s.pc.toNat p3 p1 p2 op d a b i 0 ⟨fun W => (decR _ c0 c1 W).mono fun e w' ⟨q1, q2⟩ => ⟨by rw [h2] at q1; exact q1, q2⟩⟩
theorem rfetch_none {w : World} {base g gm h : Nat} {v : Value} {s : Mc} (m : Aside0 (RW w base g gm h v s)) (hx : s.fet = none) :
    Calls Try.prog 40 #[PM g] w fun e w' => e = .returned (.tuple #[insV 0 0 0 0 0, .bool false]) ∧ Below w.heap.size w w' := by
  cases ho : offB s.code.size s.pc
  · obtain ⟨p0, p1, p2, p3⟩ := off_out ho m.out.ok.c4
    obtain ⟨c0, c1⟩ := cw_bd s.code s.pc.toNat
    have h2 : dcd (cw s.code s.pc.toNat) = none := by unfold Mc.fet at hx; rw [ho] at hx; exact hx
    exact rfetch_yes m s.pc.toNat p3 p1 p2 0 0 0 0 0 1 ⟨fun W => (decR _ c0 c1 W).mono fun e w' ⟨q1, q2⟩ => ⟨by rw [h2] at q1; exact q1, q2⟩⟩
  · exact rfetch_no m ho
end Go.Proofs.Ytbhkfdjofopfkaa.MemA
