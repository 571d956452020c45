/- The machine's End. -/
import Derived.Test.YtbhkfdjofopfkaaMaH
import Derived.RegionTactic
import Derived.Deep.RegionHeld3
namespace Go.Proofs.Ytbhkfdjofopfkaa.MemA
open Go.RowKit Go.Proofs.YtbhkfdjofopfkaaW.PrintWords Go.Proofs.YtbhkfdjofopfkaaW.PrintLast
set_option linter.unusedVariables false
set_option linter.unusedSimpArgs false
/-- The bytes of a row are read. -/
def Rd (A : Option Addr) (out : List Int) (w : World) : Prop := (Kd.int .u8).C w A out.length out
/-- How a machine ended. -/
def Mc.endV (s : Mc) : Value := .agg #[.int .i64 (if s.ended then s.kind else 3), .int .i32 (if s.ended then s.ecode else 0), .int .i64 (if s.ended then s.trap else 0), .string (strOfNums s.out), .int .i64 (s.used : Int)]
set_option maxHeartbeats 8000000 in
set_option maxRecDepth 100000 in
theorem end_ {w : World} {base g gm h : Nat} {v : Value} {s : Mc} (m : Aside0 (MW w base g gm h v s)) : Calls Try.prog 18 #[PM g] w fun e w' => e = .returned s.endV ∧ Below w.heap.size w w' := by
  have his := fun W m' => Aside0.mk (is_ (w := W) (base := base) (g := g) (gm := gm) (h := h) (v := v) (s := s) m')
  have hb1 : Aside0 (Below w.heap.size w (w.alloc (.cells #[.int .i64 0, .int .i32 0, .int .i64 0, .string ⟨#[]⟩, .int .i64 0] 25))) := ⟨below_alloc (Below.refl _ _) _⟩
  have hr1 : Aside0 ((w.alloc (.cells #[.int .i64 0, .int .i32 0, .int .i64 0, .string ⟨#[]⟩, .int .i64 0] 25)).heap[w.heap.size]? = some (.cells #[.int .i64 0, .int .i32 0, .int .i64 0, .string ⟨#[]⟩, .int .i64 0] 25 (0, 0))) := ⟨blk_new w _⟩
  obtain ⟨A, c, rfl⟩ := Kd.R_slice m.out.out
  generalize hout : s.out = out at *
  replace hout := Aside0.mk hout
  go_enter Try.func18, Try.ntmps18
  go_upto_region 1 with (fail)
  generalize w.alloc (.cells #[.int .i64 0, .int .i32 0, .int .i64 0, .string ⟨#[]⟩, .int .i64 0] 25) = W1 at *
  have m1 : Aside0 (MW W1 base g gm h (.slice A out.length c) s) := ⟨m.out.below hb1.out⟩
  have hgl := blk_lt m1.out.blk
  have c26 : W1.cell? ⟨g, 26, none⟩ = some (.bool s.ended) := (m1.out.c_tl 4).trans rfl
  have c27 : W1.cell? ⟨g, 27, none⟩ = some (.int .i64 s.kind) := (m1.out.c_tl 5).trans rfl
  have c28 : W1.cell? ⟨g, 28, none⟩ = some (.int .i32 s.ecode) := (m1.out.c_tl 6).trans rfl
  have c29 : W1.cell? ⟨g, 29, none⟩ = some (.int .i64 s.trap) := (m1.out.c_tl 7).trans rfl
  have c30 : W1.cell? ⟨g, 30, none⟩ = some (.string ⟨#[]⟩) := (m1.out.c_tl 8).trans rfl
  have c31 : W1.cell? ⟨g, 31, none⟩ = some (.int .i64 0) := (m1.out.c_tl 9).trans rfl
  have hlt1 := blk_lt hr1.out
  have hu25 := Try.underlying25
  cases hE : s.ended
  · have hV : Aside0 (s.endV = .agg #[.int .i64 3, .int .i32 0, .int .i64 0, .string (strOfNums out), .int .i64 (s.used : Int)]) := ⟨by unfold Mc.endV; rw [hE, hout.out]; rfl⟩
    rw [hE] at c26
    clear hE
    go_upto_region 6 with ((with_reducible refine (his _ m1).out.mono ?_); rintro e w' ⟨rfl, rfl⟩)
    have hb2 : Aside0 (Below w.heap.size w (W1.alloc (.cells #[.int .i64 3, .int .i32 0, .int .i64 0, .string ⟨#[]⟩, .int .i64 0] 25))) := ⟨below_alloc hb1.out _⟩
    have hp2 : Aside0 ((W1.alloc (.cells #[.int .i64 3, .int .i32 0, .int .i64 0, .string ⟨#[]⟩, .int .i64 0] 25)).heap[W1.heap.size]? = some (.cells #[.int .i64 3, .int .i32 0, .int .i64 0, .string ⟨#[]⟩, .int .i64 0] 25 (0, 0))) := ⟨blk_new W1 _⟩
    have hr2 : Aside0 ((W1.alloc (.cells #[.int .i64 3, .int .i32 0, .int .i64 0, .string ⟨#[]⟩, .int .i64 0] 25)).heap[w.heap.size]? = some (.cells #[.int .i64 0, .int .i32 0, .int .i64 0, .string ⟨#[]⟩, .int .i64 0] 25 (0, 0))) := ⟨blk_alloc hr1.out _⟩
    have m2 : Aside0 (MW (W1.alloc (.cells #[.int .i64 3, .int .i32 0, .int .i64 0, .string ⟨#[]⟩, .int .i64 0] 25)) base g gm h (.slice A out.length c) s) := ⟨m1.out.below (below_alloc (Below.refl _ _) _)⟩
    have hpb : w.heap.size ≤ W1.heap.size := hb1.out.size
    have hnp : w.heap.size ≠ W1.heap.size := Nat.ne_of_lt hlt1
    have hgp : g ≠ W1.heap.size := Nat.ne_of_lt hgl
    have hpg : W1.heap.size ≠ g := Ne.symm hgp
    generalize W1.alloc (.cells #[.int .i64 3, .int .i32 0, .int .i64 0, .string ⟨#[]⟩, .int .i64 0] 25) = W2 at *
    generalize W1.heap.size = pe at *
    clear c26 c27 c28 c29 c30 c31 m1 hr1 hb1
    have d25 : W2.cell? ⟨g, 25, none⟩ = some (.slice A out.length c) := (m2.out.c_tl 3).trans rfl
    have d24 : W2.cell? ⟨g, 24, none⟩ = some (.int .i64 (s.used : Int)) := (m2.out.c_tl 2).trans rfl
    have e3 := (blk_cell hp2.out 3).trans (show _ = some (.string ⟨#[]⟩) from rfl)
    have e4 := (blk_cell hp2.out 4).trans (show _ = some (.int .i64 0) from rfl)
    have f3 := blk_frozen hp2.out 3
    have f4 := blk_frozen hp2.out 4
    have hR2 : Kd.R (Kd.int .u8) 5 W2 base (fun _ => True) (.slice A out.length c) out := by
      have := m2.out.out
      rw [hout.out] at this
      exact this
    have hR3 := Aside0.mk (Kd.R_types hR2 hp2.out (by decide))
    have hRS : Aside0 (∀ u, Rd A out (W2.drew.setCell ⟨pe, 3, none⟩ u)) := ⟨fun u => (Kd.R_reads' (Kd.R_far (Kd.R_below hR3.out (below_drew (Below.refl _ _))) (p := ⟨pe, 3, none⟩) (fun k hk => hk.2) u)).2.2⟩
    have hRS2 : Aside0 (∀ u u2, Rd A out ((W2.drew.setCell ⟨pe, 3, none⟩ u).setCell ⟨pe, 4, none⟩ u2)) := ⟨fun u u2 => (Kd.R_reads' (Kd.R_far (Kd.R_far (Kd.R_below hR3.out (below_drew (Below.refl _ _))) (p := ⟨pe, 3, none⟩) (fun k hk => hk.2) u) (p := ⟨pe, 4, none⟩) (fun k hk => hk.2) u2)).2.2⟩
    have hRD : Aside0 (Rd A out W2.drew) := ⟨(Kd.R_reads' (Kd.R_below hR3.out (below_drew (Below.refl _ _)))).2.2⟩
    have hcv := fun (w' : World) (hq : Rd A out w') => Kd.C_string (P := Try.prog) (src := 46) (dst := 9) (e := 5) (c := c) Try.underlying46 Try.underlying5 Try.underlying9 hq
    clear hR2
    go_region_held3 (fun w' => w'.cell? ⟨g, 25, none⟩ = some (.slice A out.length c) ∧ w'.cell? ⟨g, 24, none⟩ = some (.int .i64 (s.used : Int)) ∧ Rd A out w') (first | exact ⟨d25, d24, hRD.out⟩ | (refine ⟨?_, ?_, hRS.out _⟩ <;> go_keep) | (refine ⟨?_, ?_, hRS2.out _ _⟩ <;> go_keep)) (fail)
    clear d25 d24 e3 e4 f3 f4 hcv hRS hRS2 hRD hR3
    all_goals
      have hp3 : Aside0 (((W2.setCell ⟨pe, 3, none⟩ (.string (strOfNums out))).setCell ⟨pe, 4, none⟩ (.int .i64 (s.used : Int))).drew.heap[pe]? = some (.cells #[.int .i64 3, .int .i32 0, .int .i64 0, .string (strOfNums out), .int .i64 (s.used : Int)] 25 (0, 0))) := ⟨blk_drew (blk_put (blk_put hp2.out 3 _ rfl) 4 _ rfl)⟩
      have hr3 : Aside0 (((W2.setCell ⟨pe, 3, none⟩ (.string (strOfNums out))).setCell ⟨pe, 4, none⟩ (.int .i64 (s.used : Int))).drew.heap[w.heap.size]? = some (.cells #[.int .i64 0, .int .i32 0, .int .i64 0, .string ⟨#[]⟩, .int .i64 0] 25 (0, 0))) := ⟨blk_drew (blk_far (p := ⟨pe, 4, none⟩) (blk_far (p := ⟨pe, 3, none⟩) hr2.out hnp _) hnp _)⟩
      have hb3 : Aside0 (Below w.heap.size w ((W2.setCell ⟨pe, 3, none⟩ (.string (strOfNums out))).setCell ⟨pe, 4, none⟩ (.int .i64 (s.used : Int))).drew) := ⟨below_drew (below_set (below_set hb2.out hpb) hpb)⟩
      generalize ((W2.setCell ⟨pe, 3, none⟩ (.string (strOfNums out))).setCell ⟨pe, 4, none⟩ (.int .i64 (s.used : Int))).drew = W3 at *
      have zf0 := blk_frozen hr3.out 0
      have zf1 := blk_frozen hr3.out 1
      have zf2 := blk_frozen hr3.out 2
      have zf3 := blk_frozen hr3.out 3
      have zf4 := blk_frozen hr3.out 4
      have zc0 := (blk_cell hr3.out 0).trans (show _ = some (.int .i64 0) from rfl)
      have zc1 := (blk_cell hr3.out 1).trans (show _ = some (.int .i32 0) from rfl)
      have zc2 := (blk_cell hr3.out 2).trans (show _ = some (.int .i64 0) from rfl)
      have zc3 := (blk_cell hr3.out 3).trans (show _ = some (.string ⟨#[]⟩) from rfl)
      have zc4 := (blk_cell hr3.out 4).trans (show _ = some (.int .i64 0) from rfl)
      have pc0 := (blk_cell hp3.out 0).trans (show _ = some (.int .i64 3) from rfl)
      have pc1 := (blk_cell hp3.out 1).trans (show _ = some (.int .i32 0) from rfl)
      have pc2 := (blk_cell hp3.out 2).trans (show _ = some (.int .i64 0) from rfl)
      have pc3 := (blk_cell hp3.out 3).trans (show _ = some (.string (strOfNums out)) from rfl)
      have pc4 := (blk_cell hp3.out 4).trans (show _ = some (.int .i64 (s.used : Int)) from rfl)
      go_wp2_with fail
      exact bodyPost_ret (results_cell_row rfl _ _ w.heap.size 25 #[.int .i64 3, .int .i32 0, .int .i64 0, .string (strOfNums out), .int .i64 (s.used : Int)] (0, 0) _ rfl (blk_put (blk_put (blk_put (blk_put (blk_put hr3.out 0 _ rfl) 1 _ rfl) 2 _ rfl) 3 _ rfl) 4 _ rfl) Try.underlying25 rfl (by kernel_rfl)) rfl ⟨by rw [hV.out], below_set (below_set (below_set (below_set (below_set hb3.out (Nat.le_refl _)) (Nat.le_refl _)) (Nat.le_refl _)) (Nat.le_refl _)) (Nat.le_refl _)⟩
  · have hV : Aside0 (s.endV = .agg #[.int .i64 s.kind, .int .i32 s.ecode, .int .i64 s.trap, .string (strOfNums out), .int .i64 (s.used : Int)]) := ⟨by unfold Mc.endV; rw [hE, hout.out]; rfl⟩
    rw [hE] at c26
    clear hE
    go_upto_region 6 with ((with_reducible refine (his _ m1).out.mono ?_); rintro e w' ⟨rfl, rfl⟩)
    have hb2 : Aside0 (Below w.heap.size w (W1.alloc (.cells #[.int .i64 s.kind, .int .i32 s.ecode, .int .i64 s.trap, .string ⟨#[]⟩, .int .i64 0] 25))) := ⟨below_alloc hb1.out _⟩
    have hp2 : Aside0 ((W1.alloc (.cells #[.int .i64 s.kind, .int .i32 s.ecode, .int .i64 s.trap, .string ⟨#[]⟩, .int .i64 0] 25)).heap[W1.heap.size]? = some (.cells #[.int .i64 s.kind, .int .i32 s.ecode, .int .i64 s.trap, .string ⟨#[]⟩, .int .i64 0] 25 (0, 0))) := ⟨blk_new W1 _⟩
    have hr2 : Aside0 ((W1.alloc (.cells #[.int .i64 s.kind, .int .i32 s.ecode, .int .i64 s.trap, .string ⟨#[]⟩, .int .i64 0] 25)).heap[w.heap.size]? = some (.cells #[.int .i64 0, .int .i32 0, .int .i64 0, .string ⟨#[]⟩, .int .i64 0] 25 (0, 0))) := ⟨blk_alloc hr1.out _⟩
    have m2 : Aside0 (MW (W1.alloc (.cells #[.int .i64 s.kind, .int .i32 s.ecode, .int .i64 s.trap, .string ⟨#[]⟩, .int .i64 0] 25)) base g gm h (.slice A out.length c) s) := ⟨m1.out.below (below_alloc (Below.refl _ _) _)⟩
    have hpb : w.heap.size ≤ W1.heap.size := hb1.out.size
    have hnp : w.heap.size ≠ W1.heap.size := Nat.ne_of_lt hlt1
    have hgp : g ≠ W1.heap.size := Nat.ne_of_lt hgl
    have hpg : W1.heap.size ≠ g := Ne.symm hgp
    generalize W1.alloc (.cells #[.int .i64 s.kind, .int .i32 s.ecode, .int .i64 s.trap, .string ⟨#[]⟩, .int .i64 0] 25) = W2 at *
    generalize W1.heap.size = pe at *
    clear c26 c27 c28 c29 c30 c31 m1 hr1 hb1
    have d25 : W2.cell? ⟨g, 25, none⟩ = some (.slice A out.length c) := (m2.out.c_tl 3).trans rfl
    have d24 : W2.cell? ⟨g, 24, none⟩ = some (.int .i64 (s.used : Int)) := (m2.out.c_tl 2).trans rfl
    have e3 := (blk_cell hp2.out 3).trans (show _ = some (.string ⟨#[]⟩) from rfl)
    have e4 := (blk_cell hp2.out 4).trans (show _ = some (.int .i64 0) from rfl)
    have f3 := blk_frozen hp2.out 3
    have f4 := blk_frozen hp2.out 4
    have hR2 : Kd.R (Kd.int .u8) 5 W2 base (fun _ => True) (.slice A out.length c) out := by
      have := m2.out.out
      rw [hout.out] at this
      exact this
    have hR3 := Aside0.mk (Kd.R_types hR2 hp2.out (by decide))
    have hRS : Aside0 (∀ u, Rd A out (W2.drew.setCell ⟨pe, 3, none⟩ u)) := ⟨fun u => (Kd.R_reads' (Kd.R_far (Kd.R_below hR3.out (below_drew (Below.refl _ _))) (p := ⟨pe, 3, none⟩) (fun k hk => hk.2) u)).2.2⟩
    have hRS2 : Aside0 (∀ u u2, Rd A out ((W2.drew.setCell ⟨pe, 3, none⟩ u).setCell ⟨pe, 4, none⟩ u2)) := ⟨fun u u2 => (Kd.R_reads' (Kd.R_far (Kd.R_far (Kd.R_below hR3.out (below_drew (Below.refl _ _))) (p := ⟨pe, 3, none⟩) (fun k hk => hk.2) u) (p := ⟨pe, 4, none⟩) (fun k hk => hk.2) u2)).2.2⟩
    have hRD : Aside0 (Rd A out W2.drew) := ⟨(Kd.R_reads' (Kd.R_below hR3.out (below_drew (Below.refl _ _)))).2.2⟩
    have hcv := fun (w' : World) (hq : Rd A out w') => Kd.C_string (P := Try.prog) (src := 46) (dst := 9) (e := 5) (c := c) Try.underlying46 Try.underlying5 Try.underlying9 hq
    clear hR2
    go_region_held3 (fun w' => w'.cell? ⟨g, 25, none⟩ = some (.slice A out.length c) ∧ w'.cell? ⟨g, 24, none⟩ = some (.int .i64 (s.used : Int)) ∧ Rd A out w') (first | exact ⟨d25, d24, hRD.out⟩ | (refine ⟨?_, ?_, hRS.out _⟩ <;> go_keep) | (refine ⟨?_, ?_, hRS2.out _ _⟩ <;> go_keep)) (fail)
    clear d25 d24 e3 e4 f3 f4 hcv hRS hRS2 hRD hR3
    all_goals
      have hp3 : Aside0 (((W2.setCell ⟨pe, 3, none⟩ (.string (strOfNums out))).setCell ⟨pe, 4, none⟩ (.int .i64 (s.used : Int))).drew.heap[pe]? = some (.cells #[.int .i64 s.kind, .int .i32 s.ecode, .int .i64 s.trap, .string (strOfNums out), .int .i64 (s.used : Int)] 25 (0, 0))) := ⟨blk_drew (blk_put (blk_put hp2.out 3 _ rfl) 4 _ rfl)⟩
      have hr3 : Aside0 (((W2.setCell ⟨pe, 3, none⟩ (.string (strOfNums out))).setCell ⟨pe, 4, none⟩ (.int .i64 (s.used : Int))).drew.heap[w.heap.size]? = some (.cells #[.int .i64 0, .int .i32 0, .int .i64 0, .string ⟨#[]⟩, .int .i64 0] 25 (0, 0))) := ⟨blk_drew (blk_far (p := ⟨pe, 4, none⟩) (blk_far (p := ⟨pe, 3, none⟩) hr2.out hnp _) hnp _)⟩
      have hb3 : Aside0 (Below w.heap.size w ((W2.setCell ⟨pe, 3, none⟩ (.string (strOfNums out))).setCell ⟨pe, 4, none⟩ (.int .i64 (s.used : Int))).drew) := ⟨below_drew (below_set (below_set hb2.out hpb) hpb)⟩
      generalize ((W2.setCell ⟨pe, 3, none⟩ (.string (strOfNums out))).setCell ⟨pe, 4, none⟩ (.int .i64 (s.used : Int))).drew = W3 at *
      have zf0 := blk_frozen hr3.out 0
      have zf1 := blk_frozen hr3.out 1
      have zf2 := blk_frozen hr3.out 2
      have zf3 := blk_frozen hr3.out 3
      have zf4 := blk_frozen hr3.out 4
      have zc0 := (blk_cell hr3.out 0).trans (show _ = some (.int .i64 0) from rfl)
      have zc1 := (blk_cell hr3.out 1).trans (show _ = some (.int .i32 0) from rfl)
      have zc2 := (blk_cell hr3.out 2).trans (show _ = some (.int .i64 0) from rfl)
      have zc3 := (blk_cell hr3.out 3).trans (show _ = some (.string ⟨#[]⟩) from rfl)
      have zc4 := (blk_cell hr3.out 4).trans (show _ = some (.int .i64 0) from rfl)
      have pc0 := (blk_cell hp3.out 0).trans (show _ = some (.int .i64 s.kind) from rfl)
      have pc1 := (blk_cell hp3.out 1).trans (show _ = some (.int .i32 s.ecode) from rfl)
      have pc2 := (blk_cell hp3.out 2).trans (show _ = some (.int .i64 s.trap) from rfl)
      have pc3 := (blk_cell hp3.out 3).trans (show _ = some (.string (strOfNums out)) from rfl)
      have pc4 := (blk_cell hp3.out 4).trans (show _ = some (.int .i64 (s.used : Int)) from rfl)
      go_wp2_with fail
      exact bodyPost_ret (results_cell_row rfl _ _ w.heap.size 25 #[.int .i64 s.kind, .int .i32 s.ecode, .int .i64 s.trap, .string (strOfNums out), .int .i64 (s.used : Int)] (0, 0) _ rfl (blk_put (blk_put (blk_put (blk_put (blk_put hr3.out 0 _ rfl) 1 _ rfl) 2 _ rfl) 3 _ rfl) 4 _ rfl) Try.underlying25 rfl (by kernel_rfl)) rfl ⟨by rw [hV.out], below_set (below_set (below_set (below_set (below_set hb3.out (Nat.le_refl _)) (Nat.le_refl _)) (Nat.le_refl _)) (Nat.le_refl _)) (Nat.le_refl _)⟩
end Go.Proofs.Ytbhkfdjofopfkaa.MemA
