/- The reference's machine: End. -/
import Derived.Test.YtbhkfdjofopfkaaMaM
import Derived.Test.YtbhkfdjofopfkaaRaA
namespace Go.Proofs.Ytbhkfdjofopfkaa.MemA
open Go.RowKit Go.Proofs.YtbhkfdjofopfkaaW.PrintWords Go.Proofs.YtbhkfdjofopfkaaW.PrintLast
set_option linter.unusedVariables false
set_option linter.unusedSimpArgs false
set_option maxHeartbeats 8000000 in
set_option maxRecDepth 100000 in
theorem rend_ {w : World} {base g gm h : Nat} {v : Value} {s : Mc} (m : Aside0 (RW w base g gm h v s)) (hid : s.ended = false → s.ecode = 0 ∧ s.trap = 0) : Calls Try.prog 25 #[PM g] w fun e w' => e = .returned s.endV ∧ Below w.heap.size w w' := by
  have hb1 : Aside0 (Below w.heap.size w (w.alloc (.cells #[.int .i64 0, .int .i32 0, .int .i64 0, .string ⟨#[]⟩, .int .i64 0] 25))) := ⟨below_alloc (Below.refl _ _) _⟩
  have hr1 : Aside0 ((w.alloc (.cells #[.int .i64 0, .int .i32 0, .int .i64 0, .string ⟨#[]⟩, .int .i64 0] 25)).heap[w.heap.size]? = some (.cells #[.int .i64 0, .int .i32 0, .int .i64 0, .string ⟨#[]⟩, .int .i64 0] 25 (0, 0))) := ⟨blk_new w _⟩
  obtain ⟨A, c, rfl⟩ := Kd.R_slice m.out.out
  generalize hout : s.out = out at *
  replace hout := Aside0.mk hout
  go_enter Try.func25, Try.ntmps25
  go_upto_region 1 with (fail)
  generalize w.alloc (.cells #[.int .i64 0, .int .i32 0, .int .i64 0, .string ⟨#[]⟩, .int .i64 0] 25) = W1 at *
  have m1 : Aside0 (RW W1 base g gm h (.slice A out.length c) s) := ⟨m.out.below hb1.out⟩
  have hgl := blk_lt m1.out.blk
  have c24 : W1.cell? ⟨g, 24, none⟩ = some (.bool s.ended) := (m1.out.c_tl 1).trans rfl
  have c25 : W1.cell? ⟨g, 25, none⟩ = some (.int .i64 s.kind) := (m1.out.c_tl 2).trans rfl
  have c26 : W1.cell? ⟨g, 26, none⟩ = some (.int .i32 s.ecode) := (m1.out.c_tl 3).trans rfl
  have c27 : W1.cell? ⟨g, 27, none⟩ = some (.int .i64 s.trap) := (m1.out.c_tl 4).trans rfl
  have c28 : W1.cell? ⟨g, 28, none⟩ = some (.string ⟨#[]⟩) := (m1.out.c_tl 5).trans rfl
  have c29 : W1.cell? ⟨g, 29, none⟩ = some (.int .i64 0) := (m1.out.c_tl 6).trans rfl
  have hlt1 := blk_lt hr1.out
  have hu25 := Try.underlying25
  cases hE : s.ended
  · have hV : Aside0 (s.endV = .agg #[.int .i64 3, .int .i32 0, .int .i64 0, .string (strOfNums out), .int .i64 (s.used : Int)]) := ⟨by unfold Mc.endV; rw [hE, hout.out]; rfl⟩
    obtain ⟨he0, ht0⟩ := hid hE
    rw [he0] at c26
    rw [ht0] at c27
    rw [hE] at c24
    clear hE hid
    go_upto_region 4 with (fail)
    have hb2 : Aside0 (Below w.heap.size w (W1.alloc (.cells #[.int .i64 3, .int .i32 0, .int .i64 0, .string ⟨#[]⟩, .int .i64 0] 25))) := ⟨below_alloc hb1.out _⟩
    have hp2 : Aside0 ((W1.alloc (.cells #[.int .i64 3, .int .i32 0, .int .i64 0, .string ⟨#[]⟩, .int .i64 0] 25)).heap[W1.heap.size]? = some (.cells #[.int .i64 3, .int .i32 0, .int .i64 0, .string ⟨#[]⟩, .int .i64 0] 25 (0, 0))) := ⟨blk_new W1 _⟩
    have hr2 : Aside0 ((W1.alloc (.cells #[.int .i64 3, .int .i32 0, .int .i64 0, .string ⟨#[]⟩, .int .i64 0] 25)).heap[w.heap.size]? = some (.cells #[.int .i64 0, .int .i32 0, .int .i64 0, .string ⟨#[]⟩, .int .i64 0] 25 (0, 0))) := ⟨blk_alloc hr1.out _⟩
    have m2 : Aside0 (RW (W1.alloc (.cells #[.int .i64 3, .int .i32 0, .int .i64 0, .string ⟨#[]⟩, .int .i64 0] 25)) base g gm h (.slice A out.length c) s) := ⟨m1.out.below (below_alloc (Below.refl _ _) _)⟩
    have hpb : w.heap.size ≤ W1.heap.size := hb1.out.size
    have hnp : w.heap.size ≠ W1.heap.size := Nat.ne_of_lt hlt1
    have hpn : W1.heap.size ≠ w.heap.size := Ne.symm hnp
    have hgp : g ≠ W1.heap.size := Nat.ne_of_lt hgl
    have hpg : W1.heap.size ≠ g := Ne.symm hgp
    generalize W1.alloc (.cells #[.int .i64 3, .int .i32 0, .int .i64 0, .string ⟨#[]⟩, .int .i64 0] 25) = W2 at *
    generalize W1.heap.size = pe at *
    clear c24 c25 c26 c27 c28 c29 m1 hr1 hb1
    have d30 : W2.cell? ⟨g, 30, none⟩ = some (.slice A out.length c) := (m2.out.c_tl 7).trans rfl
    have d31 : W2.cell? ⟨g, 31, none⟩ = some (.int .i64 (s.used : Int)) := (m2.out.c_tl 8).trans rfl
    have hR2 : Kd.R (Kd.int .u8) 5 W2 base (fun _ => True) (.slice A out.length c) out := by
      have := m2.out.out
      rw [hout.out] at this
      exact this
    have hcv := Kd.C_string (P := Try.prog) (src := 46) (dst := 9) (e := 5) (c := c) Try.underlying46 Try.underlying5 Try.underlying9 (Kd.R_reads' hR2).2.2
    clear hR2
    have zf0 := blk_frozen hr2.out 0
    have zf1 := blk_frozen hr2.out 1
    have zf2 := blk_frozen hr2.out 2
    have zf3 := blk_frozen hr2.out 3
    have zf4 := blk_frozen hr2.out 4
    have zc0 := (blk_cell hr2.out 0).trans (show _ = some (.int .i64 0) from rfl)
    have zc1 := (blk_cell hr2.out 1).trans (show _ = some (.int .i32 0) from rfl)
    have zc2 := (blk_cell hr2.out 2).trans (show _ = some (.int .i64 0) from rfl)
    have zc3 := (blk_cell hr2.out 3).trans (show _ = some (.string ⟨#[]⟩) from rfl)
    have zc4 := (blk_cell hr2.out 4).trans (show _ = some (.int .i64 0) from rfl)
    have pc0 := (blk_cell hp2.out 0).trans (show _ = some (.int .i64 3) from rfl)
    have pc1 := (blk_cell hp2.out 1).trans (show _ = some (.int .i32 0) from rfl)
    have pc2 := (blk_cell hp2.out 2).trans (show _ = some (.int .i64 0) from rfl)
    have pc3 := (blk_cell hp2.out 3).trans (show _ = some (.string ⟨#[]⟩) from rfl)
    have pc4 := (blk_cell hp2.out 4).trans (show _ = some (.int .i64 0) from rfl)
    have pf3 := blk_frozen hp2.out 3
    have pf4 := blk_frozen hp2.out 4
    have hp3 : Aside0 (((W2.setCell ⟨pe, 3, none⟩ (.string (strOfNums out))).setCell ⟨pe, 4, none⟩ (.int .i64 (s.used : Int))).heap[pe]? = some (.cells #[.int .i64 3, .int .i32 0, .int .i64 0, .string (strOfNums out), .int .i64 (s.used : Int)] 25 (0, 0))) := ⟨blk_put (blk_put hp2.out 3 _ rfl) 4 _ rfl⟩
    have hr3 : Aside0 (((W2.setCell ⟨pe, 3, none⟩ (.string (strOfNums out))).setCell ⟨pe, 4, none⟩ (.int .i64 (s.used : Int))).heap[w.heap.size]? = some (.cells #[.int .i64 0, .int .i32 0, .int .i64 0, .string ⟨#[]⟩, .int .i64 0] 25 (0, 0))) := ⟨blk_far (p := ⟨pe, 4, none⟩) (blk_far (p := ⟨pe, 3, none⟩) hr2.out hnp _) hnp _⟩
    have hb3 : Aside0 (Below w.heap.size w ((W2.setCell ⟨pe, 3, none⟩ (.string (strOfNums out))).setCell ⟨pe, 4, none⟩ (.int .i64 (s.used : Int)))) := ⟨below_set (below_set hb2.out hpb) hpb⟩
    go_upto_region 6 with (fail)
    generalize (W2.setCell ⟨pe, 3, none⟩ (.string (strOfNums out))).setCell ⟨pe, 4, none⟩ (.int .i64 (s.used : Int)) = W3 at *
    clear zf0 zf1 zf2 zf3 zf4 zc0 zc1 zc2 zc3 zc4 pc0 pc1 pc2 pc3 pc4 pf3 pf4 hcv d30 d31
    have zf0 := blk_frozen hr3.out 0
    have zf1 := blk_frozen hr3.out 1
    have zf2 := blk_frozen hr3.out 2
    have zf3 := blk_frozen hr3.out 3
    have zf4 := blk_frozen hr3.out 4
    have zc0 := (blk_cell hr3.out 0).trans (show _ = some (.int .i64 0) from rfl)
    have zc1 := (blk_cell hr3.out 1).trans (show _ = some (.int .i32 0) from rfl)
    have zc2 := (blk_cell hr3.out 2).trans (show _ = some (.int .i64 0) from rfl)
    have zc3 := (blk_cell hr3.out 3).trans (show _ = some (.string ⟨#[]⟩) from rfl)
    have zc4 := (blk_cell hr3.out 4).trans (show _ = some (.int .i64 0) from rfl)
    have pc0 := (blk_cell hp3.out 0).trans (show _ = some (.int .i64 3) from rfl)
    have pc1 := (blk_cell hp3.out 1).trans (show _ = some (.int .i32 0) from rfl)
    have pc2 := (blk_cell hp3.out 2).trans (show _ = some (.int .i64 0) from rfl)
    have pc3 := (blk_cell hp3.out 3).trans (show _ = some (.string (strOfNums out)) from rfl)
    have pc4 := (blk_cell hp3.out 4).trans (show _ = some (.int .i64 (s.used : Int)) from rfl)
    go_wp2_with fail
    exact bodyPost_ret (results_cell_row rfl _ _ w.heap.size 25 #[.int .i64 3, .int .i32 0, .int .i64 0, .string (strOfNums out), .int .i64 (s.used : Int)] (0, 0) _ rfl (blk_put (blk_put (blk_put (blk_put (blk_put hr3.out 0 _ rfl) 1 _ rfl) 2 _ rfl) 3 _ rfl) 4 _ rfl) Try.underlying25 rfl (by kernel_rfl)) rfl ⟨by rw [hV.out], below_set (below_set (below_set (below_set (below_set hb3.out (Nat.le_refl _)) (Nat.le_refl _)) (Nat.le_refl _)) (Nat.le_refl _)) (Nat.le_refl _)⟩
  · have hV : Aside0 (s.endV = .agg #[.int .i64 s.kind, .int .i32 s.ecode, .int .i64 s.trap, .string (strOfNums out), .int .i64 (s.used : Int)]) := ⟨by unfold Mc.endV; rw [hE, hout.out]; rfl⟩
    rw [hE] at c24
    clear hE hid
    go_upto_region 4 with (fail)
    have hb2 : Aside0 (Below w.heap.size w (W1.alloc (.cells #[.int .i64 s.kind, .int .i32 s.ecode, .int .i64 s.trap, .string ⟨#[]⟩, .int .i64 0] 25))) := ⟨below_alloc hb1.out _⟩
    have hp2 : Aside0 ((W1.alloc (.cells #[.int .i64 s.kind, .int .i32 s.ecode, .int .i64 s.trap, .string ⟨#[]⟩, .int .i64 0] 25)).heap[W1.heap.size]? = some (.cells #[.int .i64 s.kind, .int .i32 s.ecode, .int .i64 s.trap, .string ⟨#[]⟩, .int .i64 0] 25 (0, 0))) := ⟨blk_new W1 _⟩
    have hr2 : Aside0 ((W1.alloc (.cells #[.int .i64 s.kind, .int .i32 s.ecode, .int .i64 s.trap, .string ⟨#[]⟩, .int .i64 0] 25)).heap[w.heap.size]? = some (.cells #[.int .i64 0, .int .i32 0, .int .i64 0, .string ⟨#[]⟩, .int .i64 0] 25 (0, 0))) := ⟨blk_alloc hr1.out _⟩
    have m2 : Aside0 (RW (W1.alloc (.cells #[.int .i64 s.kind, .int .i32 s.ecode, .int .i64 s.trap, .string ⟨#[]⟩, .int .i64 0] 25)) base g gm h (.slice A out.length c) s) := ⟨m1.out.below (below_alloc (Below.refl _ _) _)⟩
    have hpb : w.heap.size ≤ W1.heap.size := hb1.out.size
    have hnp : w.heap.size ≠ W1.heap.size := Nat.ne_of_lt hlt1
    have hpn : W1.heap.size ≠ w.heap.size := Ne.symm hnp
    have hgp : g ≠ W1.heap.size := Nat.ne_of_lt hgl
    have hpg : W1.heap.size ≠ g := Ne.symm hgp
    generalize W1.alloc (.cells #[.int .i64 s.kind, .int .i32 s.ecode, .int .i64 s.trap, .string ⟨#[]⟩, .int .i64 0] 25) = W2 at *
    generalize W1.heap.size = pe at *
    clear c24 c25 c26 c27 c28 c29 m1 hr1 hb1
    have d30 : W2.cell? ⟨g, 30, none⟩ = some (.slice A out.length c) := (m2.out.c_tl 7).trans rfl
    have d31 : W2.cell? ⟨g, 31, none⟩ = some (.int .i64 (s.used : Int)) := (m2.out.c_tl 8).trans rfl
    have hR2 : Kd.R (Kd.int .u8) 5 W2 base (fun _ => True) (.slice A out.length c) out := by
      have := m2.out.out
      rw [hout.out] at this
      exact this
    have hcv := Kd.C_string (P := Try.prog) (src := 46) (dst := 9) (e := 5) (c := c) Try.underlying46 Try.underlying5 Try.underlying9 (Kd.R_reads' hR2).2.2
    clear hR2
    have zf0 := blk_frozen hr2.out 0
    have zf1 := blk_frozen hr2.out 1
    have zf2 := blk_frozen hr2.out 2
    have zf3 := blk_frozen hr2.out 3
    have zf4 := blk_frozen hr2.out 4
    have zc0 := (blk_cell hr2.out 0).trans (show _ = some (.int .i64 0) from rfl)
    have zc1 := (blk_cell hr2.out 1).trans (show _ = some (.int .i32 0) from rfl)
    have zc2 := (blk_cell hr2.out 2).trans (show _ = some (.int .i64 0) from rfl)
    have zc3 := (blk_cell hr2.out 3).trans (show _ = some (.string ⟨#[]⟩) from rfl)
    have zc4 := (blk_cell hr2.out 4).trans (show _ = some (.int .i64 0) from rfl)
    have pc0 := (blk_cell hp2.out 0).trans (show _ = some (.int .i64 s.kind) from rfl)
    have pc1 := (blk_cell hp2.out 1).trans (show _ = some (.int .i32 s.ecode) from rfl)
    have pc2 := (blk_cell hp2.out 2).trans (show _ = some (.int .i64 s.trap) from rfl)
    have pc3 := (blk_cell hp2.out 3).trans (show _ = some (.string ⟨#[]⟩) from rfl)
    have pc4 := (blk_cell hp2.out 4).trans (show _ = some (.int .i64 0) from rfl)
    have pf3 := blk_frozen hp2.out 3
    have pf4 := blk_frozen hp2.out 4
    have hp3 : Aside0 (((W2.setCell ⟨pe, 3, none⟩ (.string (strOfNums out))).setCell ⟨pe, 4, none⟩ (.int .i64 (s.used : Int))).heap[pe]? = some (.cells #[.int .i64 s.kind, .int .i32 s.ecode, .int .i64 s.trap, .string (strOfNums out), .int .i64 (s.used : Int)] 25 (0, 0))) := ⟨blk_put (blk_put hp2.out 3 _ rfl) 4 _ rfl⟩
    have hr3 : Aside0 (((W2.setCell ⟨pe, 3, none⟩ (.string (strOfNums out))).setCell ⟨pe, 4, none⟩ (.int .i64 (s.used : Int))).heap[w.heap.size]? = some (.cells #[.int .i64 0, .int .i32 0, .int .i64 0, .string ⟨#[]⟩, .int .i64 0] 25 (0, 0))) := ⟨blk_far (p := ⟨pe, 4, none⟩) (blk_far (p := ⟨pe, 3, none⟩) hr2.out hnp _) hnp _⟩
    have hb3 : Aside0 (Below w.heap.size w ((W2.setCell ⟨pe, 3, none⟩ (.string (strOfNums out))).setCell ⟨pe, 4, none⟩ (.int .i64 (s.used : Int)))) := ⟨below_set (below_set hb2.out hpb) hpb⟩
    go_upto_region 6 with (fail)
    generalize (W2.setCell ⟨pe, 3, none⟩ (.string (strOfNums out))).setCell ⟨pe, 4, none⟩ (.int .i64 (s.used : Int)) = W3 at *
    clear zf0 zf1 zf2 zf3 zf4 zc0 zc1 zc2 zc3 zc4 pc0 pc1 pc2 pc3 pc4 pf3 pf4 hcv d30 d31
    have zf0 := blk_frozen hr3.out 0
    have zf1 := blk_frozen hr3.out 1
    have zf2 := blk_frozen hr3.out 2
    have zf3 := blk_frozen hr3.out 3
    have zf4 := blk_frozen hr3.out 4
    have zc0 := (blk_cell hr3.out 0).trans (show _ = some (.int .i64 0) from rfl)
    have zc1 := (blk_cell hr3.out 1).trans (show _ = some (.int .i32 0) from rfl)
    have zc2 := (blk_cell hr3.out 2).trans (show _ = some (.int .i64 0) from rfl)
    have zc3 := (blk_cell hr3.out 3).trans (show _ = some (.string ⟨#[]⟩) from rfl)
    have zc4 := (blk_cell hr3.out 4).trans (show _ = some (.int .i64 0) from rfl)
    have pc0 := (blk_cell hp3.out 0).trans (show _ = some (.int .i64 s.kind) from rfl)
    have pc1 := (blk_cell hp3.out 1).trans (show _ = some (.int .i32 s.ecode) from rfl)
    have pc2 := (blk_cell hp3.out 2).trans (show _ = some (.int .i64 s.trap) from rfl)
    have pc3 := (blk_cell hp3.out 3).trans (show _ = some (.string (strOfNums out)) from rfl)
    have pc4 := (blk_cell hp3.out 4).trans (show _ = some (.int .i64 (s.used : Int)) from rfl)
    go_wp2_with fail
    exact bodyPost_ret (results_cell_row rfl _ _ w.heap.size 25 #[.int .i64 s.kind, .int .i32 s.ecode, .int .i64 s.trap, .string (strOfNums out), .int .i64 (s.used : Int)] (0, 0) _ rfl (blk_put (blk_put (blk_put (blk_put (blk_put hr3.out 0 _ rfl) 1 _ rfl) 2 _ rfl) 3 _ rfl) 4 _ rfl) Try.underlying25 rfl (by kernel_rfl)) rfl ⟨by rw [hV.out], below_set (below_set (below_set (below_set (below_set hb3.out (Nat.le_refl _)) (Nat.le_refl _)) (Nat.le_refl _)) (Nat.le_refl _)) (Nat.le_refl _)⟩
end Go.Proofs.Ytbhkfdjofopfkaa.MemA
