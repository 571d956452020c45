-- PRINTED BY print.sh 35421559b90ae4d0a3588c463048766b98c2df88dd9212a6774a882060cdf62d: not written by this session
import Derived.Test.YtiogfhmmepepdaaPIsaDecodesx0
import Derived.Test.YtiogfhmmepepdaaPIsaDecodesx2
import Derived.Test.YtiogfhmmepepdaaPIsaDecodesx3
namespace Go.Proofs.Ytiogfhmmepepdaa.PIsaDecodes
open Go.RowKit Go.Proofs.YtiogfhmmepepdaaW.PrintWords Go.Proofs.YtiogfhmmepepdaaW.PrintLast Go.Proofs.YtiogfhmmepepdaaW.PrintMore
attribute [local go_sem] max2_int min2_int max_two min_two max_three min_three max_four min_four   -- for this text's walks alone
set_option linter.unusedVariables false
set_option linter.unusedSimpArgs false

/-! ### isa_Decode: function 12 -/
mutual
def isa_Decode.j0 : Nat → Int → Int → Int → Int → Int → Int → Int → Option (Int × Int × Int × Int × Int × Int)
  | 0, _, _, _, _, _, _, _ => none
  | k + 1, x0, x5, x114000, x114001, x114002, x114003, x114004 => if (Go.bits .and .i64 x5 2) = 0 then (isa_Decode.j1 k x0 x5 x114000 x114001 x114002 x114003 x114004) else (isa_Decode.j1 k x0 x5 x114000 x114001 (wrap64 (Go.bits .and .u32 (x0 / 65536) 15)) x114003 x114004)
def isa_Decode.j1 : Nat → Int → Int → Int → Int → Int → Int → Int → Option (Int × Int × Int × Int × Int × Int)
  | 0, _, _, _, _, _, _, _ => none
  | k + 1, x0, x5, x114000, x114001, x114002, x114003, x114004 => if (Go.bits .and .i64 x5 4) = 0 then (isa_Decode.j2 k x0 x5 x114000 x114001 x114002 x114003 x114004) else (isa_Decode.j2 k x0 x5 x114000 x114001 x114002 (wrap64 (Go.bits .and .u32 (x0 / 4096) 15)) x114004)
def isa_Decode.j2 : Nat → Int → Int → Int → Int → Int → Int → Int → Option (Int × Int × Int × Int × Int × Int)
  | 0, _, _, _, _, _, _, _ => none
  | k + 1, x0, x5, x114000, x114001, x114002, x114003, x114004 => if (Go.bits .and .i64 x5 8) = 0 then (if (Go.bits .and .i64 x5 80) = 0 then (if (Go.bits .and .i64 x5 32) = 0 then ((isa_Encode.f k x114000 x114001 x114002 x114003 x114004).bind fun bt115 => (if bt115.2 = 0 then (if bt115.1 = x0 then (some (x114000, x114001, x114002, x114003, x114004, 0)) else (some (0, 0, 0, 0, 0, 1))) else (some (0, 0, 0, 0, 0, 1)))) else ((isa_Encode.f k x114000 x114001 x114002 x114003 ((wrap32 ((x0 * 256) % 4294967296)) / 256)).bind fun bt117 => (if bt117.2 = 0 then (if bt117.1 = x0 then (some (x114000, x114001, x114002, x114003, (wrap32 ((x0 * 256) % 4294967296)) / 256, 0)) else (some (0, 0, 0, 0, 0, 1))) else (some (0, 0, 0, 0, 0, 1))))) else ((isa_Encode.f k x114000 x114001 x114002 x114003 (wrap32 (Go.bits .and .u32 x0 65535))).bind fun bt119 => (if bt119.2 = 0 then (if bt119.1 = x0 then (some (x114000, x114001, x114002, x114003, wrap32 (Go.bits .and .u32 x0 65535), 0)) else (some (0, 0, 0, 0, 0, 1))) else (some (0, 0, 0, 0, 0, 1))))) else ((isa_Encode.f k x114000 x114001 x114002 x114003 (wrap32 (IntKind.i16.wrap (x0)))).bind fun bt121 => (if bt121.2 = 0 then (if bt121.1 = x0 then (some (x114000, x114001, x114002, x114003, wrap32 (IntKind.i16.wrap (x0)), 0)) else (some (0, 0, 0, 0, 0, 1))) else (some (0, 0, 0, 0, 0, 1))))
end
def isa_Decode.f (k : Nat) (a0 : Int) : Option (Int × Int × Int × Int × Int × Int) := (isa_parts.f k (wrap64 (a0 / 16777216))).bind fun t114 => (if (Go.bits .and .i64 t114 1) = 0 then (isa_Decode.j0 k a0 t114 (wrap64 (a0 / 16777216)) 0 0 0 0) else (isa_Decode.j0 k a0 t114 (wrap64 (a0 / 16777216)) (wrap64 (Go.bits .and .u32 (a0 / 1048576) 15)) 0 0 0))
theorem isa_Decode.mono_l : ∀ k, (∀ y0 y1 y2 y3 y4 y5 y6, LeO (isa_Decode.j0 k y0 y1 y2 y3 y4 y5 y6) (isa_Decode.j0 (k + 1) y0 y1 y2 y3 y4 y5 y6)) ∧ (∀ y0 y1 y2 y3 y4 y5 y6, LeO (isa_Decode.j1 k y0 y1 y2 y3 y4 y5 y6) (isa_Decode.j1 (k + 1) y0 y1 y2 y3 y4 y5 y6)) ∧ (∀ y0 y1 y2 y3 y4 y5 y6, LeO (isa_Decode.j2 k y0 y1 y2 y3 y4 y5 y6) (isa_Decode.j2 (k + 1) y0 y1 y2 y3 y4 y5 y6))
  | 0 => ⟨fun _ _ _ _ _ _ _ r h => by simp [isa_Decode.j0] at h, fun _ _ _ _ _ _ _ r h => by simp [isa_Decode.j1] at h, fun _ _ _ _ _ _ _ r h => by simp [isa_Decode.j2] at h⟩
  | k + 1 => by
    obtain ⟨ih0, ih1, ih2⟩ := isa_Decode.mono_l k
    refine ⟨?_, ?_, ?_⟩
    · intro y0 y1 y2 y3 y4 y5 y6
      unfold isa_Decode.j0
      repeat' first
      | (with_reducible exact ih0 _ _ _ _ _ _ _)
      | (with_reducible exact ih1 _ _ _ _ _ _ _)
      | (with_reducible exact ih2 _ _ _ _ _ _ _)
      | (with_reducible exact isa_Encode.mono _ _ _ _ _ _)
      | (with_reducible exact isa_parts.mono _ _)
      | (with_reducible exact LeO.refl _)
      | (with_reducible exact LeO.none _)
      | (with_reducible refine LeO.ite ?_ ?_)
      | (with_reducible refine LeO.bind ?_ (fun _ => ?_))
      | exact ih0 _ _ _ _ _ _ _
      | exact ih1 _ _ _ _ _ _ _
      | exact ih2 _ _ _ _ _ _ _
      | exact isa_Encode.mono _ _ _ _ _ _
      | exact isa_parts.mono _ _
      | exact LeO.none _
      | refine LeO.ite ?_ ?_
      | refine LeO.bind ?_ (fun _ => ?_)
    · intro y0 y1 y2 y3 y4 y5 y6
      unfold isa_Decode.j1
      repeat' first
      | (with_reducible exact ih0 _ _ _ _ _ _ _)
      | (with_reducible exact ih1 _ _ _ _ _ _ _)
      | (with_reducible exact ih2 _ _ _ _ _ _ _)
      | (with_reducible exact isa_Encode.mono _ _ _ _ _ _)
      | (with_reducible exact isa_parts.mono _ _)
      | (with_reducible exact LeO.refl _)
      | (with_reducible exact LeO.none _)
      | (with_reducible refine LeO.ite ?_ ?_)
      | (with_reducible refine LeO.bind ?_ (fun _ => ?_))
      | exact ih0 _ _ _ _ _ _ _
      | exact ih1 _ _ _ _ _ _ _
      | exact ih2 _ _ _ _ _ _ _
      | exact isa_Encode.mono _ _ _ _ _ _
      | exact isa_parts.mono _ _
      | exact LeO.none _
      | refine LeO.ite ?_ ?_
      | refine LeO.bind ?_ (fun _ => ?_)
    · intro y0 y1 y2 y3 y4 y5 y6
      unfold isa_Decode.j2
      repeat' first
      | (with_reducible exact ih0 _ _ _ _ _ _ _)
      | (with_reducible exact ih1 _ _ _ _ _ _ _)
      | (with_reducible exact ih2 _ _ _ _ _ _ _)
      | (with_reducible exact isa_Encode.mono _ _ _ _ _ _)
      | (with_reducible exact isa_parts.mono _ _)
      | (with_reducible exact LeO.refl _)
      | (with_reducible exact LeO.none _)
      | (with_reducible refine LeO.ite ?_ ?_)
      | (with_reducible refine LeO.bind ?_ (fun _ => ?_))
      | exact ih0 _ _ _ _ _ _ _
      | exact ih1 _ _ _ _ _ _ _
      | exact ih2 _ _ _ _ _ _ _
      | exact isa_Encode.mono _ _ _ _ _ _
      | exact isa_parts.mono _ _
      | exact LeO.none _
      | refine LeO.ite ?_ ?_
      | refine LeO.bind ?_ (fun _ => ?_)
theorem isa_Decode.mono : ∀ a0 k, LeO (isa_Decode.f k a0) (isa_Decode.f (k + 1) a0) := by
  intro a0 k
  obtain ⟨ih0, ih1, ih2⟩ := isa_Decode.mono_l k
  unfold isa_Decode.f
  repeat' first
      | (with_reducible exact ih0 _ _ _ _ _ _ _)
      | (with_reducible exact ih1 _ _ _ _ _ _ _)
      | (with_reducible exact ih2 _ _ _ _ _ _ _)
      | (with_reducible exact isa_Encode.mono _ _ _ _ _ _)
      | (with_reducible exact isa_parts.mono _ _)
      | (with_reducible exact LeO.refl _)
      | (with_reducible exact LeO.none _)
      | (with_reducible refine LeO.ite ?_ ?_)
      | (with_reducible refine LeO.bind ?_ (fun _ => ?_))
      | exact ih0 _ _ _ _ _ _ _
      | exact ih1 _ _ _ _ _ _ _
      | exact ih2 _ _ _ _ _ _ _
      | exact isa_Encode.mono _ _ _ _ _ _
      | exact isa_parts.mono _ _
      | exact LeO.none _
      | refine LeO.ite ?_ ?_
      | refine LeO.bind ?_ (fun _ => ?_)
set_option maxHeartbeats 8000000 in
set_option maxRecDepth 100000 in
theorem isa_Decode.calls (k : Nat) (a0 : Int) (r1 : Int) (r2 : Int) (r3 : Int) (r4 : Int) (r5 : Int) (r6 : Int) (w : World) (h : isa_Decode.f k a0 = some (r1, r2, r3, r4, r5, r6)) :
    Calls Try.prog 12 #[.int .u32 a0] w fun e w' => e = .returned (.tuple #[.agg #[.int .i64 r1, .int .i64 r2, .int .i64 r3, .int .i64 r4, .int .i32 r5], .int .i64 r6]) ∧ Below w.heap.size w w' := by
  have hu23 := Try.underlying23
  have HB := Aside0.mk (Below.refl w.heap.size w)
  have H : ((isa_parts.f k (wrap64 (a0 / 16777216))).bind fun t114 => (if (Go.bits .and .i64 t114 1) = 0 then (isa_Decode.j0 k a0 t114 (wrap64 (a0 / 16777216)) 0 0 0 0) else (isa_Decode.j0 k a0 t114 (wrap64 (a0 / 16777216)) (wrap64 (Go.bits .and .u32 (a0 / 1048576) 15)) 0 0 0))) = some (r1, r2, r3, r4, r5, r6) := h
  clear h
  replace H := Option.bind_eq_some_iff.mp H
  obtain ⟨t114, A20, H⟩ := H
  replace H : (if (Go.bits .and .i64 t114 1) = 0 then (isa_Decode.j0 k a0 t114 (wrap64 (a0 / 16777216)) 0 0 0 0) else (isa_Decode.j0 k a0 t114 (wrap64 (a0 / 16777216)) (wrap64 (Go.bits .and .u32 (a0 / 1048576) 15)) 0 0 0)) = some (r1, r2, r3, r4, r5, r6) := H
  have A2 := Aside0.mk A20
  clear A20
  have HC3 := Aside0.mk H
  clear H
  go_enter Try.func12, Try.ntmps12
  go_upto_if 17 with (first | ((with_reducible refine gate_dst (N := 2) rfl ?_); refine box_event ?hg (N := 2) ?hd (cs := #[.int .i64 0, .int .i64 0, .int .i64 0, .int .i64 0, .int .i32 0]) (t := 23) ?hr ?_; (case hd => rfl); (case hg => rfl); (case hr => first | (go_simp; done) | (go_simp; rfl)); intro gb112 hg w4 hbox hb; have n0_ := Aside0.mk (below_step (by repeat (first | (with_reducible first | exact HB.out | apply below_alloc | apply pw_below_drewN | apply below_drew1) | exact HB.out)) hb); have n1_ := Aside0.mk (hbox); have n2_ := Aside0.mk ((by rw [hg]; exact (below_size (by repeat (first | (with_reducible first | exact HB.out | apply below_alloc | apply pw_below_drewN | apply below_drew1) | exact HB.out))) : w.heap.size ≤ gb112)); have n3_ := Aside0.mk ((by rw [hg]; exact (below_size (by repeat (first | (with_reducible first | exact HB.out | apply below_alloc | apply pw_below_drewN | apply below_drew1) | exact HB.out))) : w.heap.size ≤ gb112)); clear HB; have HB := n0_; have BK112 := n1_; have GW112 := n2_; have GE112 := n3_; clear n0_ n1_ n2_ n3_; clear hb hbox hg) | ((with_reducible refine gate_dst (N := 4) rfl ?_); refine box_event ?hg (N := 4) ?hd (cs := #[.int .i64 0, .int .i64 0, .int .i64 0, .int .i64 0, .int .i32 0]) (t := 23) ?hr ?_; (case hd => rfl); (case hg => rfl); (case hr => first | (go_simp; done) | (go_simp; rfl)); intro gb113 hg w5 hbox hb; have n0_ := Aside0.mk (blk_below (g := gb112) (o := .cells #[.int .i64 0, .int .i64 0, .int .i64 0, .int .i64 0, .int .i32 0] 23 (0, 0)) (by (with_reducible repeat (first | refine blk_drewN ?_ _ | refine blk_drew ?_ | refine blk_alloc ?_ _)); exact BK112.out) hb); have n1_ := Aside0.mk (below_step (by repeat (first | (with_reducible first | exact HB.out | apply below_alloc | apply pw_below_drewN | apply below_drew1 | refine below_set ?_ GE112.out) | exact HB.out)) hb); have n2_ := Aside0.mk (hbox); have n3_ := Aside0.mk ((by rw [hg]; exact (below_size (by repeat (first | (with_reducible first | exact HB.out | apply below_alloc | apply pw_below_drewN | apply below_drew1 | refine below_set ?_ GE112.out) | exact HB.out))) : w.heap.size ≤ gb113)); have n4_ := Aside0.mk ((by rw [hg]; exact (below_size (by repeat (first | (with_reducible first | exact HB.out | apply below_alloc | apply pw_below_drewN | apply below_drew1 | refine below_set ?_ GE112.out) | exact HB.out))) : w.heap.size ≤ gb113)); have n5_ := Aside0.mk ((by rw [hg]; exact Nat.ne_of_lt (blk_lt (g := gb112) (o := .cells #[.int .i64 0, .int .i64 0, .int .i64 0, .int .i64 0, .int .i32 0] 23 (0, 0)) (by (with_reducible repeat (first | refine blk_drewN ?_ _ | refine blk_drew ?_ | refine blk_alloc ?_ _)); exact BK112.out)) : gb112 ≠ gb113)); have n6_ := Aside0.mk ((by rw [hg]; exact Nat.ne_of_gt (blk_lt (g := gb112) (o := .cells #[.int .i64 0, .int .i64 0, .int .i64 0, .int .i64 0, .int .i32 0] 23 (0, 0)) (by (with_reducible repeat (first | refine blk_drewN ?_ _ | refine blk_drew ?_ | refine blk_alloc ?_ _)); exact BK112.out)) : gb113 ≠ gb112)); clear BK112; clear HB; have BK112 := n0_; have HB := n1_; have BK113 := n2_; have GW113 := n3_; have GE113 := n4_; have NB112_113 := n5_; have NB113_112 := n6_; clear n0_ n1_ n2_ n3_ n4_ n5_ n6_; clear hb hbox hg; have hnb6 := NB113_112.out; have hnc6 := NB112_113.out; have hcz7_0 : w5.cell? ⟨gb113, 0, none⟩ = some (.int .i64 0) := (blk_cell BK113.out 0).trans rfl; have hcz7_1 : w5.cell? ⟨gb113, 1, none⟩ = some (.int .i64 0) := (blk_cell BK113.out 1).trans rfl; have hcz7_2 : w5.cell? ⟨gb113, 2, none⟩ = some (.int .i64 0) := (blk_cell BK113.out 2).trans rfl; have hcz7_3 : w5.cell? ⟨gb113, 3, none⟩ = some (.int .i64 0) := (blk_cell BK113.out 3).trans rfl; have hcz7_4 : w5.cell? ⟨gb113, 4, none⟩ = some (.int .i32 0) := (blk_cell BK113.out 4).trans rfl; have hfz7_0 := blk_frozen BK113.out 0; have hfz7_1 := blk_frozen BK113.out 1; have hfz7_2 := blk_frozen BK113.out 2; have hfz7_3 := blk_frozen BK113.out 3; have hfz7_4 := blk_frozen BK113.out 4) | ((with_reducible refine gate_callee (f := 18) rfl ?_); refine goesL_ (some 14) rfl rfl Try.func18 (by kernel_rfl) rfl #[.int .i64 (wrap64 (a0 / 16777216))] rfl (by (try simp only [List.map_toArray, List.map_cons, List.map_nil]); first | done | rfl | (simp only [List.length_drop, List.length_take]; rfl)) ?_; (with_reducible refine (isa_parts.calls k (wrap64 (a0 / 16777216)) t114 _ A2.out).mono ?_); rintro e w' ⟨rfl, ⟨nd, rfl⟩⟩; refine ⟨_, rfl, ?_⟩))
  (try simp only [Act.put, List.setIfInBounds_toArray, List.set_cons_zero, List.set_cons_succ])
  go_cut [] (fun wc => ∃ (kq : Nat) (x114001_2 : Int), Aside0 (isa_Decode.j0 kq a0 t114 (wrap64 (a0 / 16777216)) x114001_2 0 0 0 = some (r1, r2, r3, r4, r5, r6)) ∧ Aside0 (kq ≤ k) ∧ Aside0 (wc.heap[gb112]? = some (.cells #[.int .i64 0, .int .i64 0, .int .i64 0, .int .i64 0, .int .i32 0] 23 (0, 0))) ∧ Aside0 (wc.heap[gb113]? = some (.cells #[.int .i64 (wrap64 (a0 / 16777216)), .int .i64 x114001_2, .int .i64 0, .int .i64 0, .int .i32 0] 23 (0, 0))) ∧ Aside0 (Below w.heap.size w wc))
  case first =>
    have H := HC3.out
    clear HC3
    by_cases c8 : (Go.bits .and .i64 t114 1) = 0
    · rw [if_pos c8] at H
      have c8b0 : ((Go.bits .and .i64 t114 1) == 0) = true := beq_iff_eq.mpr c8
      have c8b1 : ((Go.bits .and .i64 t114 1) != 0) = false := bne_eq_false_iff_eq.mpr c8
      clear c8
      (first | rw [c8b0] | (simp only [i64_w, i32_w]; rw [c8b0]) | skip)
      have H' := Aside0.mk H
      clear H
      go_wp2
      go_meet
      case rel => exact ⟨_, (0), H', ⟨by first | omega | exact Nat.le_refl _⟩, ⟨by (with_reducible repeat (first | refine blk_drewN ?_ _ | refine blk_drew ?_ | refine blk_alloc ?_ _)); refine blk_far ?_ NB112_113.out _; (with_reducible repeat (first | refine blk_drewN ?_ _ | refine blk_drew ?_ | refine blk_alloc ?_ _)); refine blk_far ?_ NB112_113.out _; (with_reducible repeat (first | refine blk_drewN ?_ _ | refine blk_drew ?_ | refine blk_alloc ?_ _)); refine blk_far ?_ NB112_113.out _; (with_reducible repeat (first | refine blk_drewN ?_ _ | refine blk_drew ?_ | refine blk_alloc ?_ _)); refine blk_far ?_ NB112_113.out _; (with_reducible repeat (first | refine blk_drewN ?_ _ | refine blk_drew ?_ | refine blk_alloc ?_ _)); refine blk_far ?_ NB112_113.out _; (with_reducible repeat (first | refine blk_drewN ?_ _ | refine blk_drew ?_ | refine blk_alloc ?_ _)); exact BK112.out⟩, ⟨by (with_reducible repeat (first | refine blk_drewN ?_ _ | refine blk_drew ?_ | refine blk_alloc ?_ _)); refine blk_put (cs := #[.int .i64 (wrap64 (a0 / 16777216)), .int .i64 0, .int .i64 0, .int .i64 0, .int .i32 0]) ?_ 4 _ rfl; (with_reducible repeat (first | refine blk_drewN ?_ _ | refine blk_drew ?_ | refine blk_alloc ?_ _)); refine blk_put (cs := #[.int .i64 (wrap64 (a0 / 16777216)), .int .i64 0, .int .i64 0, .int .i64 0, .int .i32 0]) ?_ 3 _ rfl; (with_reducible repeat (first | refine blk_drewN ?_ _ | refine blk_drew ?_ | refine blk_alloc ?_ _)); refine blk_put (cs := #[.int .i64 (wrap64 (a0 / 16777216)), .int .i64 0, .int .i64 0, .int .i64 0, .int .i32 0]) ?_ 2 _ rfl; (with_reducible repeat (first | refine blk_drewN ?_ _ | refine blk_drew ?_ | refine blk_alloc ?_ _)); refine blk_put (cs := #[.int .i64 (wrap64 (a0 / 16777216)), .int .i64 0, .int .i64 0, .int .i64 0, .int .i32 0]) ?_ 1 _ rfl; (with_reducible repeat (first | refine blk_drewN ?_ _ | refine blk_drew ?_ | refine blk_alloc ?_ _)); refine blk_put (cs := #[.int .i64 0, .int .i64 0, .int .i64 0, .int .i64 0, .int .i32 0]) ?_ 0 _ rfl; (with_reducible repeat (first | refine blk_drewN ?_ _ | refine blk_drew ?_ | refine blk_alloc ?_ _)); exact BK113.out⟩, ⟨by repeat (first | (with_reducible first | exact HB.out | apply below_alloc | apply pw_below_drewN | apply below_drew1 | refine below_set ?_ GE112.out | refine below_set ?_ GE113.out) | exact HB.out)⟩⟩
    · rw [if_neg c8] at H
      have c8b0 : ((Go.bits .and .i64 t114 1) == 0) = false := beq_eq_false_iff_ne.mpr c8
      have c8b1 : ((Go.bits .and .i64 t114 1) != 0) = true := bne_iff_ne.mpr c8
      (first | rw [c8b0] | (simp only [i64_w, i32_w]; rw [c8b0]) | skip)
      have H' := Aside0.mk H
      clear H
      have hnb9 := NB113_112.out
      have hnc9 := NB112_113.out
      have hcz10_0 : w5.cell? ⟨gb113, 0, none⟩ = some (.int .i64 0) := (blk_cell BK113.out 0).trans rfl
      have hcz10_1 : w5.cell? ⟨gb113, 1, none⟩ = some (.int .i64 0) := (blk_cell BK113.out 1).trans rfl
      have hcz10_2 : w5.cell? ⟨gb113, 2, none⟩ = some (.int .i64 0) := (blk_cell BK113.out 2).trans rfl
      have hcz10_3 : w5.cell? ⟨gb113, 3, none⟩ = some (.int .i64 0) := (blk_cell BK113.out 3).trans rfl
      have hcz10_4 : w5.cell? ⟨gb113, 4, none⟩ = some (.int .i32 0) := (blk_cell BK113.out 4).trans rfl
      have hfz10_0 := blk_frozen BK113.out 0
      have hfz10_1 := blk_frozen BK113.out 1
      have hfz10_2 := blk_frozen BK113.out 2
      have hfz10_3 := blk_frozen BK113.out 3
      have hfz10_4 := blk_frozen BK113.out 4
      go_wp2
      go_meet
      case rel => exact ⟨_, (wrap64 (Go.bits .and .u32 (a0 / 1048576) 15)), H', ⟨by first | omega | exact Nat.le_refl _⟩, ⟨by (with_reducible repeat (first | refine blk_drewN ?_ _ | refine blk_drew ?_ | refine blk_alloc ?_ _)); refine blk_far ?_ NB112_113.out _; (with_reducible repeat (first | refine blk_drewN ?_ _ | refine blk_drew ?_ | refine blk_alloc ?_ _)); refine blk_far ?_ NB112_113.out _; (with_reducible repeat (first | refine blk_drewN ?_ _ | refine blk_drew ?_ | refine blk_alloc ?_ _)); refine blk_far ?_ NB112_113.out _; (with_reducible repeat (first | refine blk_drewN ?_ _ | refine blk_drew ?_ | refine blk_alloc ?_ _)); refine blk_far ?_ NB112_113.out _; (with_reducible repeat (first | refine blk_drewN ?_ _ | refine blk_drew ?_ | refine blk_alloc ?_ _)); refine blk_far ?_ NB112_113.out _; (with_reducible repeat (first | refine blk_drewN ?_ _ | refine blk_drew ?_ | refine blk_alloc ?_ _)); refine blk_far ?_ NB112_113.out _; (with_reducible repeat (first | refine blk_drewN ?_ _ | refine blk_drew ?_ | refine blk_alloc ?_ _)); exact BK112.out⟩, ⟨by (with_reducible repeat (first | refine blk_drewN ?_ _ | refine blk_drew ?_ | refine blk_alloc ?_ _)); refine blk_put (cs := #[.int .i64 (wrap64 (a0 / 16777216)), .int .i64 0, .int .i64 0, .int .i64 0, .int .i32 0]) ?_ 1 _ rfl; (with_reducible repeat (first | refine blk_drewN ?_ _ | refine blk_drew ?_ | refine blk_alloc ?_ _)); refine blk_put (cs := #[.int .i64 (wrap64 (a0 / 16777216)), .int .i64 0, .int .i64 0, .int .i64 0, .int .i32 0]) ?_ 4 _ rfl; (with_reducible repeat (first | refine blk_drewN ?_ _ | refine blk_drew ?_ | refine blk_alloc ?_ _)); refine blk_put (cs := #[.int .i64 (wrap64 (a0 / 16777216)), .int .i64 0, .int .i64 0, .int .i64 0, .int .i32 0]) ?_ 3 _ rfl; (with_reducible repeat (first | refine blk_drewN ?_ _ | refine blk_drew ?_ | refine blk_alloc ?_ _)); refine blk_put (cs := #[.int .i64 (wrap64 (a0 / 16777216)), .int .i64 0, .int .i64 0, .int .i64 0, .int .i32 0]) ?_ 2 _ rfl; (with_reducible repeat (first | refine blk_drewN ?_ _ | refine blk_drew ?_ | refine blk_alloc ?_ _)); refine blk_put (cs := #[.int .i64 (wrap64 (a0 / 16777216)), .int .i64 0, .int .i64 0, .int .i64 0, .int .i32 0]) ?_ 1 _ rfl; (with_reducible repeat (first | refine blk_drewN ?_ _ | refine blk_drew ?_ | refine blk_alloc ?_ _)); refine blk_put (cs := #[.int .i64 0, .int .i64 0, .int .i64 0, .int .i64 0, .int .i32 0]) ?_ 0 _ rfl; (with_reducible repeat (first | refine blk_drewN ?_ _ | refine blk_drew ?_ | refine blk_alloc ?_ _)); exact BK113.out⟩, ⟨by repeat (first | (with_reducible first | exact HB.out | apply below_alloc | apply pw_below_drewN | apply below_drew1 | refine below_set ?_ GE112.out | refine below_set ?_ GE113.out) | exact HB.out)⟩⟩
  case rest =>
    clear HC3
    try clear c1
    try clear p2
    try clear c6
    try clear p6
    try clear c8
    try clear c8b0
    try clear c8b1
    try clear c9
    try clear hcz10_0
    try clear hcz10_1
    try clear hcz10_2
    try clear hcz10_3
    try clear hcz10_4
    try clear hcz7_0
    try clear hcz7_1
    try clear hcz7_2
    try clear hcz7_3
    try clear hcz7_4
    try clear hfz10_0
    try clear hfz10_1
    try clear hfz10_2
    try clear hfz10_3
    try clear hfz10_4
    try clear hfz7_0
    try clear hfz7_1
    try clear hfz7_2
    try clear hfz7_3
    try clear hfz7_4
    obtain ⟨kq, x114001_2, HA, HJ2, BK112, BK113, HB⟩ := hcut
    cases kq with
    | zero => exact absurd HA.out (by simp [isa_Decode.j0])
    | succ kj2 =>
      have H := HA.out
      clear HA
      simp only [isa_Decode.j0] at H
      have HC11 := Aside0.mk H
      clear H
      go_upto_if 25 with (fail)
      go_cut [] (fun wc => ∃ (kq : Nat) (x114002_10 : Int), Aside0 (isa_Decode.j1 kq a0 t114 (wrap64 (a0 / 16777216)) x114001_2 x114002_10 0 0 = some (r1, r2, r3, r4, r5, r6)) ∧ Aside0 (kq ≤ kj2) ∧ Aside0 (wc.heap[gb112]? = some (.cells #[.int .i64 0, .int .i64 0, .int .i64 0, .int .i64 0, .int .i32 0] 23 (0, 0))) ∧ Aside0 (wc.heap[gb113]? = some (.cells #[.int .i64 (wrap64 (a0 / 16777216)), .int .i64 x114001_2, .int .i64 x114002_10, .int .i64 0, .int .i32 0] 23 (0, 0))) ∧ Aside0 (Below w.heap.size w wc))
      case first =>
        have H := HC11.out
        clear HC11
        by_cases c12 : (Go.bits .and .i64 t114 2) = 0
        · rw [if_pos c12] at H
          have c12b0 : ((Go.bits .and .i64 t114 2) == 0) = true := beq_iff_eq.mpr c12
          have c12b1 : ((Go.bits .and .i64 t114 2) != 0) = false := bne_eq_false_iff_eq.mpr c12
          clear c12
          (first | rw [c12b0] | (simp only [i64_w, i32_w]; rw [c12b0]) | skip)
          have H' := Aside0.mk H
          clear H
          go_wp2
          go_meet
          case rel => exact ⟨_, (0), H', ⟨by have := HJ2.out; first | omega | exact Nat.le_refl _⟩, ⟨by (with_reducible repeat (first | refine blk_drewN ?_ _ | refine blk_drew ?_ | refine blk_alloc ?_ _)); exact BK112.out⟩, ⟨by (with_reducible repeat (first | refine blk_drewN ?_ _ | refine blk_drew ?_ | refine blk_alloc ?_ _)); exact BK113.out⟩, ⟨by repeat (first | (with_reducible first | exact HB.out | apply below_alloc | apply pw_below_drewN | apply below_drew1 | refine below_set ?_ GE112.out | refine below_set ?_ GE113.out) | exact HB.out)⟩⟩
        · rw [if_neg c12] at H
          have c12b0 : ((Go.bits .and .i64 t114 2) == 0) = false := beq_eq_false_iff_ne.mpr c12
          have c12b1 : ((Go.bits .and .i64 t114 2) != 0) = true := bne_iff_ne.mpr c12
          (first | rw [c12b0] | (simp only [i64_w, i32_w]; rw [c12b0]) | skip)
          have H' := Aside0.mk H
          clear H
          have hnb13 := NB113_112.out
          have hnc13 := NB112_113.out
          have hcz14_0 : wc.cell? ⟨gb113, 0, none⟩ = some (.int .i64 (wrap64 (a0 / 16777216))) := (blk_cell BK113.out 0).trans rfl
          have hcz14_1 : wc.cell? ⟨gb113, 1, none⟩ = some (.int .i64 x114001_2) := (blk_cell BK113.out 1).trans rfl
          have hcz14_2 : wc.cell? ⟨gb113, 2, none⟩ = some (.int .i64 0) := (blk_cell BK113.out 2).trans rfl
          have hcz14_3 : wc.cell? ⟨gb113, 3, none⟩ = some (.int .i64 0) := (blk_cell BK113.out 3).trans rfl
          have hcz14_4 : wc.cell? ⟨gb113, 4, none⟩ = some (.int .i32 0) := (blk_cell BK113.out 4).trans rfl
          have hfz14_0 := blk_frozen BK113.out 0
          have hfz14_1 := blk_frozen BK113.out 1
          have hfz14_2 := blk_frozen BK113.out 2
          have hfz14_3 := blk_frozen BK113.out 3
          have hfz14_4 := blk_frozen BK113.out 4
          go_wp2
          go_meet
          case rel => exact ⟨_, (wrap64 (Go.bits .and .u32 (a0 / 65536) 15)), H', ⟨by have := HJ2.out; first | omega | exact Nat.le_refl _⟩, ⟨by (with_reducible repeat (first | refine blk_drewN ?_ _ | refine blk_drew ?_ | refine blk_alloc ?_ _)); refine blk_far ?_ NB112_113.out _; (with_reducible repeat (first | refine blk_drewN ?_ _ | refine blk_drew ?_ | refine blk_alloc ?_ _)); exact BK112.out⟩, ⟨by (with_reducible repeat (first | refine blk_drewN ?_ _ | refine blk_drew ?_ | refine blk_alloc ?_ _)); refine blk_put (cs := #[.int .i64 (wrap64 (a0 / 16777216)), .int .i64 x114001_2, .int .i64 0, .int .i64 0, .int .i32 0]) ?_ 2 _ rfl; (with_reducible repeat (first | refine blk_drewN ?_ _ | refine blk_drew ?_ | refine blk_alloc ?_ _)); exact BK113.out⟩, ⟨by repeat (first | (with_reducible first | exact HB.out | apply below_alloc | apply pw_below_drewN | apply below_drew1 | refine below_set ?_ GE112.out | refine below_set ?_ GE113.out) | exact HB.out)⟩⟩
      case rest =>
        clear HC11
        try clear c1
        try clear p2
        try clear c6
        try clear p6
        try clear c8
        try clear c8b0
        try clear c8b1
        try clear c9
        try clear c12
        try clear c12b0
        try clear c12b1
        try clear c13
        try clear hcz10_0
        try clear hcz10_1
        try clear hcz10_2
        try clear hcz10_3
        try clear hcz10_4
        try clear hcz14_0
        try clear hcz14_1
        try clear hcz14_2
        try clear hcz14_3
        try clear hcz14_4
        try clear hcz7_0
        try clear hcz7_1
        try clear hcz7_2
        try clear hcz7_3
        try clear hcz7_4
        try clear hfz10_0
        try clear hfz10_1
        try clear hfz10_2
        try clear hfz10_3
        try clear hfz10_4
        try clear hfz14_0
        try clear hfz14_1
        try clear hfz14_2
        try clear hfz14_3
        try clear hfz14_4
        try clear hfz7_0
        try clear hfz7_1
        try clear hfz7_2
        try clear hfz7_3
        try clear hfz7_4
        try clear p2
        try clear p6
        obtain ⟨kq, x114002_10, HA, HJ10, BK112, BK113, HB⟩ := hcut
        cases kq with
        | zero => exact absurd HA.out (by simp [isa_Decode.j1])
        | succ kj10 =>
          have H := HA.out
          clear HA
          simp only [isa_Decode.j1] at H
          have HC15 := Aside0.mk H
          clear H
          go_upto_if 33 with (fail)
          go_cut [] (fun wc => ∃ (kq : Nat) (x114003_14 : Int), Aside0 (isa_Decode.j2 kq a0 t114 (wrap64 (a0 / 16777216)) x114001_2 x114002_10 x114003_14 0 = some (r1, r2, r3, r4, r5, r6)) ∧ Aside0 (kq ≤ kj10) ∧ Aside0 (wc.heap[gb112]? = some (.cells #[.int .i64 0, .int .i64 0, .int .i64 0, .int .i64 0, .int .i32 0] 23 (0, 0))) ∧ Aside0 (wc.heap[gb113]? = some (.cells #[.int .i64 (wrap64 (a0 / 16777216)), .int .i64 x114001_2, .int .i64 x114002_10, .int .i64 x114003_14, .int .i32 0] 23 (0, 0))) ∧ Aside0 (Below w.heap.size w wc))
          case first =>
            have H := HC15.out
            clear HC15
            by_cases c16 : (Go.bits .and .i64 t114 4) = 0
            · rw [if_pos c16] at H
              have c16b0 : ((Go.bits .and .i64 t114 4) == 0) = true := beq_iff_eq.mpr c16
              have c16b1 : ((Go.bits .and .i64 t114 4) != 0) = false := bne_eq_false_iff_eq.mpr c16
              clear c16
              (first | rw [c16b0] | (simp only [i64_w, i32_w]; rw [c16b0]) | skip)
              have H' := Aside0.mk H
              clear H
              go_wp2
              go_meet
              case rel => exact ⟨_, (0), H', ⟨by have := HJ2.out; have := HJ10.out; first | omega | exact Nat.le_refl _⟩, ⟨by (with_reducible repeat (first | refine blk_drewN ?_ _ | refine blk_drew ?_ | refine blk_alloc ?_ _)); exact BK112.out⟩, ⟨by (with_reducible repeat (first | refine blk_drewN ?_ _ | refine blk_drew ?_ | refine blk_alloc ?_ _)); exact BK113.out⟩, ⟨by repeat (first | (with_reducible first | exact HB.out | apply below_alloc | apply pw_below_drewN | apply below_drew1 | refine below_set ?_ GE112.out | refine below_set ?_ GE113.out) | exact HB.out)⟩⟩
            · rw [if_neg c16] at H
              have c16b0 : ((Go.bits .and .i64 t114 4) == 0) = false := beq_eq_false_iff_ne.mpr c16
              have c16b1 : ((Go.bits .and .i64 t114 4) != 0) = true := bne_iff_ne.mpr c16
              (first | rw [c16b0] | (simp only [i64_w, i32_w]; rw [c16b0]) | skip)
              have H' := Aside0.mk H
              clear H
              have hnb17 := NB113_112.out
              have hnc17 := NB112_113.out
              have hcz18_0 : wc.cell? ⟨gb113, 0, none⟩ = some (.int .i64 (wrap64 (a0 / 16777216))) := (blk_cell BK113.out 0).trans rfl
              have hcz18_1 : wc.cell? ⟨gb113, 1, none⟩ = some (.int .i64 x114001_2) := (blk_cell BK113.out 1).trans rfl
              have hcz18_2 : wc.cell? ⟨gb113, 2, none⟩ = some (.int .i64 x114002_10) := (blk_cell BK113.out 2).trans rfl
              have hcz18_3 : wc.cell? ⟨gb113, 3, none⟩ = some (.int .i64 0) := (blk_cell BK113.out 3).trans rfl
              have hcz18_4 : wc.cell? ⟨gb113, 4, none⟩ = some (.int .i32 0) := (blk_cell BK113.out 4).trans rfl
              have hfz18_0 := blk_frozen BK113.out 0
              have hfz18_1 := blk_frozen BK113.out 1
              have hfz18_2 := blk_frozen BK113.out 2
              have hfz18_3 := blk_frozen BK113.out 3
              have hfz18_4 := blk_frozen BK113.out 4
              go_wp2
              go_meet
              case rel => exact ⟨_, (wrap64 (Go.bits .and .u32 (a0 / 4096) 15)), H', ⟨by have := HJ2.out; have := HJ10.out; first | omega | exact Nat.le_refl _⟩, ⟨by (with_reducible repeat (first | refine blk_drewN ?_ _ | refine blk_drew ?_ | refine blk_alloc ?_ _)); refine blk_far ?_ NB112_113.out _; (with_reducible repeat (first | refine blk_drewN ?_ _ | refine blk_drew ?_ | refine blk_alloc ?_ _)); exact BK112.out⟩, ⟨by (with_reducible repeat (first | refine blk_drewN ?_ _ | refine blk_drew ?_ | refine blk_alloc ?_ _)); refine blk_put (cs := #[.int .i64 (wrap64 (a0 / 16777216)), .int .i64 x114001_2, .int .i64 x114002_10, .int .i64 0, .int .i32 0]) ?_ 3 _ rfl; (with_reducible repeat (first | refine blk_drewN ?_ _ | refine blk_drew ?_ | refine blk_alloc ?_ _)); exact BK113.out⟩, ⟨by repeat (first | (with_reducible first | exact HB.out | apply below_alloc | apply pw_below_drewN | apply below_drew1 | refine below_set ?_ GE112.out | refine below_set ?_ GE113.out) | exact HB.out)⟩⟩
          case rest =>
            clear HC15
            try clear c1
            try clear p2
            try clear c6
            try clear p6
            try clear c8
            try clear c8b0
            try clear c8b1
            try clear c9
            try clear c12
            try clear c12b0
            try clear c12b1
            try clear c13
            try clear c16
            try clear c16b0
            try clear c16b1
            try clear c17
            try clear c18
            try clear hcz10_0
            try clear hcz10_1
            try clear hcz10_2
            try clear hcz10_3
            try clear hcz10_4
            try clear hcz14_0
            try clear hcz14_1
            try clear hcz14_2
            try clear hcz14_3
            try clear hcz14_4
            try clear hcz18_0
            try clear hcz18_1
            try clear hcz18_2
            try clear hcz18_3
            try clear hcz18_4
            try clear hcz7_0
            try clear hcz7_1
            try clear hcz7_2
            try clear hcz7_3
            try clear hcz7_4
            try clear hfz10_0
            try clear hfz10_1
            try clear hfz10_2
            try clear hfz10_3
            try clear hfz10_4
            try clear hfz14_0
            try clear hfz14_1
            try clear hfz14_2
            try clear hfz14_3
            try clear hfz14_4
            try clear hfz18_0
            try clear hfz18_1
            try clear hfz18_2
            try clear hfz18_3
            try clear hfz18_4
            try clear hfz7_0
            try clear hfz7_1
            try clear hfz7_2
            try clear hfz7_3
            try clear hfz7_4
            try clear p2
            try clear p6
            obtain ⟨kq, x114003_14, HA, HJ14, BK112, BK113, HB⟩ := hcut
            cases kq with
            | zero => exact absurd HA.out (by simp [isa_Decode.j2])
            | succ kj14 =>
              have H := HA.out
              clear HA
              simp only [isa_Decode.j2] at H
              by_cases c19 : (Go.bits .and .i64 t114 8) = 0
              · rw [if_pos c19] at H
                have c19b0 : ((Go.bits .and .i64 t114 8) == 0) = true := beq_iff_eq.mpr c19
                have c19b1 : ((Go.bits .and .i64 t114 8) != 0) = false := bne_eq_false_iff_eq.mpr c19
                clear c19
                by_cases c20 : (Go.bits .and .i64 t114 80) = 0
                · rw [if_pos c20] at H
                  have c20b0 : ((Go.bits .and .i64 t114 80) == 0) = true := beq_iff_eq.mpr c20
                  have c20b1 : ((Go.bits .and .i64 t114 80) != 0) = false := bne_eq_false_iff_eq.mpr c20
                  clear c20
                  by_cases c21 : (Go.bits .and .i64 t114 32) = 0
                  · rw [if_pos c21] at H
                    have c21b0 : ((Go.bits .and .i64 t114 32) == 0) = true := beq_iff_eq.mpr c21
                    have c21b1 : ((Go.bits .and .i64 t114 32) != 0) = false := bne_eq_false_iff_eq.mpr c21
                    clear c21
                    replace H := Option.bind_eq_some_iff.mp H
                    obtain ⟨⟨t115, t116⟩, A220, H⟩ := H
                    replace H : (if t116 = 0 then (if t115 = a0 then (some ((wrap64 (a0 / 16777216)), x114001_2, x114002_10, x114003_14, 0, 0)) else (some (0, 0, 0, 0, 0, 1))) else (some (0, 0, 0, 0, 0, 1))) = some (r1, r2, r3, r4, r5, r6) := H
                    have A22 := Aside0.mk A220
                    clear A220
                    by_cases c23 : t116 = 0
                    · rw [if_pos c23] at H
                      have c23b0 : (t116 == 0) = true := beq_iff_eq.mpr c23
                      have c23b1 : (t116 != 0) = false := bne_eq_false_iff_eq.mpr c23
                      clear c23
                      by_cases c24 : t115 = a0
                      · rw [if_pos c24] at H
                        have c24b0 : (t115 == a0) = true := beq_iff_eq.mpr c24
                        have c24b1 : (t115 != a0) = false := bne_eq_false_iff_eq.mpr c24
                        clear c24
                        simp only [Option.some.injEq, Prod.mk.injEq] at H
                        obtain ⟨rfl, rfl, rfl, rfl, rfl, rfl⟩ := H
                        have hnb25 := NB113_112.out
                        have hnc25 := NB112_113.out
                        have hcz26_0 : wc.cell? ⟨gb113, 0, none⟩ = some (.int .i64 (wrap64 (a0 / 16777216))) := (blk_cell BK113.out 0).trans rfl
                        have hcz26_1 : wc.cell? ⟨gb113, 1, none⟩ = some (.int .i64 x114001_2) := (blk_cell BK113.out 1).trans rfl
                        have hcz26_2 : wc.cell? ⟨gb113, 2, none⟩ = some (.int .i64 x114002_10) := (blk_cell BK113.out 2).trans rfl
                        have hcz26_3 : wc.cell? ⟨gb113, 3, none⟩ = some (.int .i64 x114003_14) := (blk_cell BK113.out 3).trans rfl
                        have hcz26_4 : wc.cell? ⟨gb113, 4, none⟩ = some (.int .i32 0) := (blk_cell BK113.out 4).trans rfl
                        have hfz26_0 := blk_frozen BK113.out 0
                        have hfz26_1 := blk_frozen BK113.out 1
                        have hfz26_2 := blk_frozen BK113.out 2
                        have hfz26_3 := blk_frozen BK113.out 3
                        have hfz26_4 := blk_frozen BK113.out 4
                        go_wp2_with (first | ((with_reducible refine gate_callee (f := 7) rfl ?_); refine goesL_ (some 66) rfl rfl Try.func7 (by kernel_rfl) rfl #[.agg #[.int .i64 (wrap64 (a0 / 16777216)), .int .i64 x114001_2, .int .i64 x114002_10, .int .i64 x114003_14, .int .i32 0]] rfl (by (try simp only [List.map_toArray, List.map_cons, List.map_nil]); first | done | rfl | (simp only [List.length_drop, List.length_take]; rfl)) ?_; (with_reducible refine (isa_Encode.calls kj14 (wrap64 (a0 / 16777216)) x114001_2 x114002_10 x114003_14 0 t115 t116 _ A22.out).mono ?_); rintro e w27 ⟨rfl, hb⟩; refine ⟨_, rfl, ?_⟩; have n0_ := Aside0.mk (blk_below (g := gb112) (o := .cells #[.int .i64 0, .int .i64 0, .int .i64 0, .int .i64 0, .int .i32 0] 23 (0, 0)) (by (with_reducible repeat (first | refine blk_drewN ?_ _ | refine blk_drew ?_ | refine blk_alloc ?_ _)); exact BK112.out) hb); have n1_ := Aside0.mk (blk_below (g := gb113) (o := .cells #[.int .i64 (wrap64 (a0 / 16777216)), .int .i64 x114001_2, .int .i64 x114002_10, .int .i64 x114003_14, .int .i32 0] 23 (0, 0)) (by (with_reducible repeat (first | refine blk_drewN ?_ _ | refine blk_drew ?_ | refine blk_alloc ?_ _)); exact BK113.out) hb); have n2_ := Aside0.mk (below_step (by repeat (first | (with_reducible first | exact HB.out | apply below_alloc | apply pw_below_drewN | apply below_drew1 | refine below_set ?_ GE112.out | refine below_set ?_ GE113.out) | exact HB.out)) hb); clear BK112; clear BK113; clear HB; have BK112 := n0_; have BK113 := n1_; have HB := n2_; clear n0_ n1_ n2_; (try clear hb); (try clear hb2); (try clear hk); (try clear hi); have hcz28_0 : w27.cell? ⟨gb113, 0, none⟩ = some (.int .i64 (wrap64 (a0 / 16777216))) := (blk_cell BK113.out 0).trans rfl; have hcz28_1 : w27.cell? ⟨gb113, 1, none⟩ = some (.int .i64 x114001_2) := (blk_cell BK113.out 1).trans rfl; have hcz28_2 : w27.cell? ⟨gb113, 2, none⟩ = some (.int .i64 x114002_10) := (blk_cell BK113.out 2).trans rfl; have hcz28_3 : w27.cell? ⟨gb113, 3, none⟩ = some (.int .i64 x114003_14) := (blk_cell BK113.out 3).trans rfl; have hcz28_4 : w27.cell? ⟨gb113, 4, none⟩ = some (.int .i32 0) := (blk_cell BK113.out 4).trans rfl; have hfz28_0 := blk_frozen BK113.out 0; have hfz28_1 := blk_frozen BK113.out 1; have hfz28_2 := blk_frozen BK113.out 2; have hfz28_3 := blk_frozen BK113.out 3; have hfz28_4 := blk_frozen BK113.out 4; have hcz29_0 : w27.cell? ⟨gb112, 0, none⟩ = some (.int .i64 0) := (blk_cell BK112.out 0).trans rfl; have hcz29_1 : w27.cell? ⟨gb112, 1, none⟩ = some (.int .i64 0) := (blk_cell BK112.out 1).trans rfl; have hcz29_2 : w27.cell? ⟨gb112, 2, none⟩ = some (.int .i64 0) := (blk_cell BK112.out 2).trans rfl; have hcz29_3 : w27.cell? ⟨gb112, 3, none⟩ = some (.int .i64 0) := (blk_cell BK112.out 3).trans rfl; have hcz29_4 : w27.cell? ⟨gb112, 4, none⟩ = some (.int .i32 0) := (blk_cell BK112.out 4).trans rfl; have hfz29_0 := blk_frozen BK112.out 0; have hfz29_1 := blk_frozen BK112.out 1; have hfz29_2 := blk_frozen BK112.out 2; have hfz29_3 := blk_frozen BK112.out 3; have hfz29_4 := blk_frozen BK112.out 4))
                        refine bodyPost_ret (results_ct rfl _ _ gb112 23 #[.int .i64 (wrap64 (a0 / 16777216)), .int .i64 x114001_2, .int .i64 x114002_10, .int .i64 x114003_14, .int .i32 0] (0, 0) _ rfl (by (with_reducible repeat (first | refine blk_drewN ?_ _ | refine blk_drew ?_ | refine blk_alloc ?_ _)); refine blk_put (cs := #[.int .i64 (wrap64 (a0 / 16777216)), .int .i64 x114001_2, .int .i64 x114002_10, .int .i64 x114003_14, .int .i32 0]) ?_ 4 _ rfl; (with_reducible repeat (first | refine blk_drewN ?_ _ | refine blk_drew ?_ | refine blk_alloc ?_ _)); refine blk_put (cs := #[.int .i64 (wrap64 (a0 / 16777216)), .int .i64 x114001_2, .int .i64 x114002_10, .int .i64 0, .int .i32 0]) ?_ 3 _ rfl; (with_reducible repeat (first | refine blk_drewN ?_ _ | refine blk_drew ?_ | refine blk_alloc ?_ _)); refine blk_put (cs := #[.int .i64 (wrap64 (a0 / 16777216)), .int .i64 x114001_2, .int .i64 0, .int .i64 0, .int .i32 0]) ?_ 2 _ rfl; (with_reducible repeat (first | refine blk_drewN ?_ _ | refine blk_drew ?_ | refine blk_alloc ?_ _)); refine blk_put (cs := #[.int .i64 (wrap64 (a0 / 16777216)), .int .i64 0, .int .i64 0, .int .i64 0, .int .i32 0]) ?_ 1 _ rfl; (with_reducible repeat (first | refine blk_drewN ?_ _ | refine blk_drew ?_ | refine blk_alloc ?_ _)); refine blk_put (cs := #[.int .i64 0, .int .i64 0, .int .i64 0, .int .i64 0, .int .i32 0]) ?_ 0 _ rfl; (with_reducible repeat (first | refine blk_drewN ?_ _ | refine blk_drew ?_ | refine blk_alloc ?_ _)); exact BK112.out) Try.underlying23 rfl (by kernel_rfl)) rfl ?_
                        exact ⟨by first | rfl | (simp [errW_none, errW_some] <;> rfl) | (simp [*, errW_none, errW_some] <;> rfl), by repeat (first | (with_reducible first | exact HB.out | apply below_alloc | apply pw_below_drewN | apply below_drew1 | refine below_set ?_ GE112.out | refine below_set ?_ GE113.out) | exact HB.out)⟩
                      · rw [if_neg c24] at H
                        have c24b0 : (t115 == a0) = false := beq_eq_false_iff_ne.mpr c24
                        have c24b1 : (t115 != a0) = true := bne_iff_ne.mpr c24
                        simp only [Option.some.injEq, Prod.mk.injEq] at H
                        obtain ⟨rfl, rfl, rfl, rfl, rfl, rfl⟩ := H
                        have hnb30 := NB113_112.out
                        have hnc30 := NB112_113.out
                        have hcz31_0 : wc.cell? ⟨gb113, 0, none⟩ = some (.int .i64 (wrap64 (a0 / 16777216))) := (blk_cell BK113.out 0).trans rfl
                        have hcz31_1 : wc.cell? ⟨gb113, 1, none⟩ = some (.int .i64 x114001_2) := (blk_cell BK113.out 1).trans rfl
                        have hcz31_2 : wc.cell? ⟨gb113, 2, none⟩ = some (.int .i64 x114002_10) := (blk_cell BK113.out 2).trans rfl
                        have hcz31_3 : wc.cell? ⟨gb113, 3, none⟩ = some (.int .i64 x114003_14) := (blk_cell BK113.out 3).trans rfl
                        have hcz31_4 : wc.cell? ⟨gb113, 4, none⟩ = some (.int .i32 0) := (blk_cell BK113.out 4).trans rfl
                        have hfz31_0 := blk_frozen BK113.out 0
                        have hfz31_1 := blk_frozen BK113.out 1
                        have hfz31_2 := blk_frozen BK113.out 2
                        have hfz31_3 := blk_frozen BK113.out 3
                        have hfz31_4 := blk_frozen BK113.out 4
                        go_wp2_with (first | ((with_reducible refine gate_callee (f := 7) rfl ?_); refine goesL_ (some 66) rfl rfl Try.func7 (by kernel_rfl) rfl #[.agg #[.int .i64 (wrap64 (a0 / 16777216)), .int .i64 x114001_2, .int .i64 x114002_10, .int .i64 x114003_14, .int .i32 0]] rfl (by (try simp only [List.map_toArray, List.map_cons, List.map_nil]); first | done | rfl | (simp only [List.length_drop, List.length_take]; rfl)) ?_; (with_reducible refine (isa_Encode.calls kj14 (wrap64 (a0 / 16777216)) x114001_2 x114002_10 x114003_14 0 t115 t116 _ A22.out).mono ?_); rintro e w32 ⟨rfl, hb⟩; refine ⟨_, rfl, ?_⟩; have n0_ := Aside0.mk (blk_below (g := gb112) (o := .cells #[.int .i64 0, .int .i64 0, .int .i64 0, .int .i64 0, .int .i32 0] 23 (0, 0)) (by (with_reducible repeat (first | refine blk_drewN ?_ _ | refine blk_drew ?_ | refine blk_alloc ?_ _)); exact BK112.out) hb); have n1_ := Aside0.mk (blk_below (g := gb113) (o := .cells #[.int .i64 (wrap64 (a0 / 16777216)), .int .i64 x114001_2, .int .i64 x114002_10, .int .i64 x114003_14, .int .i32 0] 23 (0, 0)) (by (with_reducible repeat (first | refine blk_drewN ?_ _ | refine blk_drew ?_ | refine blk_alloc ?_ _)); exact BK113.out) hb); have n2_ := Aside0.mk (below_step (by repeat (first | (with_reducible first | exact HB.out | apply below_alloc | apply pw_below_drewN | apply below_drew1 | refine below_set ?_ GE112.out | refine below_set ?_ GE113.out) | exact HB.out)) hb); clear BK112; clear BK113; clear HB; have BK112 := n0_; have BK113 := n1_; have HB := n2_; clear n0_ n1_ n2_; (try clear hb); (try clear hb2); (try clear hk); (try clear hi); have hcz33_0 : w32.cell? ⟨gb112, 0, none⟩ = some (.int .i64 0) := (blk_cell BK112.out 0).trans rfl; have hcz33_1 : w32.cell? ⟨gb112, 1, none⟩ = some (.int .i64 0) := (blk_cell BK112.out 1).trans rfl; have hcz33_2 : w32.cell? ⟨gb112, 2, none⟩ = some (.int .i64 0) := (blk_cell BK112.out 2).trans rfl; have hcz33_3 : w32.cell? ⟨gb112, 3, none⟩ = some (.int .i64 0) := (blk_cell BK112.out 3).trans rfl; have hcz33_4 : w32.cell? ⟨gb112, 4, none⟩ = some (.int .i32 0) := (blk_cell BK112.out 4).trans rfl; have hfz33_0 := blk_frozen BK112.out 0; have hfz33_1 := blk_frozen BK112.out 1; have hfz33_2 := blk_frozen BK112.out 2; have hfz33_3 := blk_frozen BK112.out 3; have hfz33_4 := blk_frozen BK112.out 4))
                        refine bodyPost_ret (results_ct rfl _ _ gb112 23 #[.int .i64 0, .int .i64 0, .int .i64 0, .int .i64 0, .int .i32 0] (0, 0) _ rfl (by (with_reducible repeat (first | refine blk_drewN ?_ _ | refine blk_drew ?_ | refine blk_alloc ?_ _)); refine blk_put (cs := #[.int .i64 0, .int .i64 0, .int .i64 0, .int .i64 0, .int .i32 0]) ?_ 4 _ rfl; (with_reducible repeat (first | refine blk_drewN ?_ _ | refine blk_drew ?_ | refine blk_alloc ?_ _)); refine blk_put (cs := #[.int .i64 0, .int .i64 0, .int .i64 0, .int .i64 0, .int .i32 0]) ?_ 3 _ rfl; (with_reducible repeat (first | refine blk_drewN ?_ _ | refine blk_drew ?_ | refine blk_alloc ?_ _)); refine blk_put (cs := #[.int .i64 0, .int .i64 0, .int .i64 0, .int .i64 0, .int .i32 0]) ?_ 2 _ rfl; (with_reducible repeat (first | refine blk_drewN ?_ _ | refine blk_drew ?_ | refine blk_alloc ?_ _)); refine blk_put (cs := #[.int .i64 0, .int .i64 0, .int .i64 0, .int .i64 0, .int .i32 0]) ?_ 1 _ rfl; (with_reducible repeat (first | refine blk_drewN ?_ _ | refine blk_drew ?_ | refine blk_alloc ?_ _)); refine blk_put (cs := #[.int .i64 0, .int .i64 0, .int .i64 0, .int .i64 0, .int .i32 0]) ?_ 0 _ rfl; (with_reducible repeat (first | refine blk_drewN ?_ _ | refine blk_drew ?_ | refine blk_alloc ?_ _)); exact BK112.out) Try.underlying23 rfl (by kernel_rfl)) rfl ?_
                        exact ⟨by first | rfl | (simp [errW_none, errW_some] <;> rfl) | (simp [*, errW_none, errW_some] <;> rfl), by repeat (first | (with_reducible first | exact HB.out | apply below_alloc | apply pw_below_drewN | apply below_drew1 | refine below_set ?_ GE112.out | refine below_set ?_ GE113.out) | exact HB.out)⟩
                    · rw [if_neg c23] at H
                      have c23b0 : (t116 == 0) = false := beq_eq_false_iff_ne.mpr c23
                      have c23b1 : (t116 != 0) = true := bne_iff_ne.mpr c23
                      simp only [Option.some.injEq, Prod.mk.injEq] at H
                      obtain ⟨rfl, rfl, rfl, rfl, rfl, rfl⟩ := H
                      have hnb34 := NB113_112.out
                      have hnc34 := NB112_113.out
                      have hcz35_0 : wc.cell? ⟨gb113, 0, none⟩ = some (.int .i64 (wrap64 (a0 / 16777216))) := (blk_cell BK113.out 0).trans rfl
                      have hcz35_1 : wc.cell? ⟨gb113, 1, none⟩ = some (.int .i64 x114001_2) := (blk_cell BK113.out 1).trans rfl
                      have hcz35_2 : wc.cell? ⟨gb113, 2, none⟩ = some (.int .i64 x114002_10) := (blk_cell BK113.out 2).trans rfl
                      have hcz35_3 : wc.cell? ⟨gb113, 3, none⟩ = some (.int .i64 x114003_14) := (blk_cell BK113.out 3).trans rfl
                      have hcz35_4 : wc.cell? ⟨gb113, 4, none⟩ = some (.int .i32 0) := (blk_cell BK113.out 4).trans rfl
                      have hfz35_0 := blk_frozen BK113.out 0
                      have hfz35_1 := blk_frozen BK113.out 1
                      have hfz35_2 := blk_frozen BK113.out 2
                      have hfz35_3 := blk_frozen BK113.out 3
                      have hfz35_4 := blk_frozen BK113.out 4
                      go_wp2_with (first | ((with_reducible refine gate_callee (f := 7) rfl ?_); refine goesL_ (some 66) rfl rfl Try.func7 (by kernel_rfl) rfl #[.agg #[.int .i64 (wrap64 (a0 / 16777216)), .int .i64 x114001_2, .int .i64 x114002_10, .int .i64 x114003_14, .int .i32 0]] rfl (by (try simp only [List.map_toArray, List.map_cons, List.map_nil]); first | done | rfl | (simp only [List.length_drop, List.length_take]; rfl)) ?_; (with_reducible refine (isa_Encode.calls kj14 (wrap64 (a0 / 16777216)) x114001_2 x114002_10 x114003_14 0 t115 t116 _ A22.out).mono ?_); rintro e w36 ⟨rfl, hb⟩; refine ⟨_, rfl, ?_⟩; have n0_ := Aside0.mk (blk_below (g := gb112) (o := .cells #[.int .i64 0, .int .i64 0, .int .i64 0, .int .i64 0, .int .i32 0] 23 (0, 0)) (by (with_reducible repeat (first | refine blk_drewN ?_ _ | refine blk_drew ?_ | refine blk_alloc ?_ _)); exact BK112.out) hb); have n1_ := Aside0.mk (blk_below (g := gb113) (o := .cells #[.int .i64 (wrap64 (a0 / 16777216)), .int .i64 x114001_2, .int .i64 x114002_10, .int .i64 x114003_14, .int .i32 0] 23 (0, 0)) (by (with_reducible repeat (first | refine blk_drewN ?_ _ | refine blk_drew ?_ | refine blk_alloc ?_ _)); exact BK113.out) hb); have n2_ := Aside0.mk (below_step (by repeat (first | (with_reducible first | exact HB.out | apply below_alloc | apply pw_below_drewN | apply below_drew1 | refine below_set ?_ GE112.out | refine below_set ?_ GE113.out) | exact HB.out)) hb); clear BK112; clear BK113; clear HB; have BK112 := n0_; have BK113 := n1_; have HB := n2_; clear n0_ n1_ n2_; (try clear hb); (try clear hb2); (try clear hk); (try clear hi); have hcz37_0 : w36.cell? ⟨gb112, 0, none⟩ = some (.int .i64 0) := (blk_cell BK112.out 0).trans rfl; have hcz37_1 : w36.cell? ⟨gb112, 1, none⟩ = some (.int .i64 0) := (blk_cell BK112.out 1).trans rfl; have hcz37_2 : w36.cell? ⟨gb112, 2, none⟩ = some (.int .i64 0) := (blk_cell BK112.out 2).trans rfl; have hcz37_3 : w36.cell? ⟨gb112, 3, none⟩ = some (.int .i64 0) := (blk_cell BK112.out 3).trans rfl; have hcz37_4 : w36.cell? ⟨gb112, 4, none⟩ = some (.int .i32 0) := (blk_cell BK112.out 4).trans rfl; have hfz37_0 := blk_frozen BK112.out 0; have hfz37_1 := blk_frozen BK112.out 1; have hfz37_2 := blk_frozen BK112.out 2; have hfz37_3 := blk_frozen BK112.out 3; have hfz37_4 := blk_frozen BK112.out 4))
                      refine bodyPost_ret (results_ct rfl _ _ gb112 23 #[.int .i64 0, .int .i64 0, .int .i64 0, .int .i64 0, .int .i32 0] (0, 0) _ rfl (by (with_reducible repeat (first | refine blk_drewN ?_ _ | refine blk_drew ?_ | refine blk_alloc ?_ _)); refine blk_put (cs := #[.int .i64 0, .int .i64 0, .int .i64 0, .int .i64 0, .int .i32 0]) ?_ 4 _ rfl; (with_reducible repeat (first | refine blk_drewN ?_ _ | refine blk_drew ?_ | refine blk_alloc ?_ _)); refine blk_put (cs := #[.int .i64 0, .int .i64 0, .int .i64 0, .int .i64 0, .int .i32 0]) ?_ 3 _ rfl; (with_reducible repeat (first | refine blk_drewN ?_ _ | refine blk_drew ?_ | refine blk_alloc ?_ _)); refine blk_put (cs := #[.int .i64 0, .int .i64 0, .int .i64 0, .int .i64 0, .int .i32 0]) ?_ 2 _ rfl; (with_reducible repeat (first | refine blk_drewN ?_ _ | refine blk_drew ?_ | refine blk_alloc ?_ _)); refine blk_put (cs := #[.int .i64 0, .int .i64 0, .int .i64 0, .int .i64 0, .int .i32 0]) ?_ 1 _ rfl; (with_reducible repeat (first | refine blk_drewN ?_ _ | refine blk_drew ?_ | refine blk_alloc ?_ _)); refine blk_put (cs := #[.int .i64 0, .int .i64 0, .int .i64 0, .int .i64 0, .int .i32 0]) ?_ 0 _ rfl; (with_reducible repeat (first | refine blk_drewN ?_ _ | refine blk_drew ?_ | refine blk_alloc ?_ _)); exact BK112.out) Try.underlying23 rfl (by kernel_rfl)) rfl ?_
                      exact ⟨by first | rfl | (simp [errW_none, errW_some] <;> rfl) | (simp [*, errW_none, errW_some] <;> rfl), by repeat (first | (with_reducible first | exact HB.out | apply below_alloc | apply pw_below_drewN | apply below_drew1 | refine below_set ?_ GE112.out | refine below_set ?_ GE113.out) | exact HB.out)⟩
                  · rw [if_neg c21] at H
                    have c21b0 : ((Go.bits .and .i64 t114 32) == 0) = false := beq_eq_false_iff_ne.mpr c21
                    have c21b1 : ((Go.bits .and .i64 t114 32) != 0) = true := bne_iff_ne.mpr c21
                    replace H := Option.bind_eq_some_iff.mp H
                    obtain ⟨⟨t117, t118⟩, A380, H⟩ := H
                    replace H : (if t118 = 0 then (if t117 = a0 then (some ((wrap64 (a0 / 16777216)), x114001_2, x114002_10, x114003_14, (wrap32 ((a0 * 256) % 4294967296)) / 256, 0)) else (some (0, 0, 0, 0, 0, 1))) else (some (0, 0, 0, 0, 0, 1))) = some (r1, r2, r3, r4, r5, r6) := H
                    have A38 := Aside0.mk A380
                    clear A380
                    by_cases c39 : t118 = 0
                    · rw [if_pos c39] at H
                      have c39b0 : (t118 == 0) = true := beq_iff_eq.mpr c39
                      have c39b1 : (t118 != 0) = false := bne_eq_false_iff_eq.mpr c39
                      clear c39
                      by_cases c40 : t117 = a0
                      · rw [if_pos c40] at H
                        have c40b0 : (t117 == a0) = true := beq_iff_eq.mpr c40
                        have c40b1 : (t117 != a0) = false := bne_eq_false_iff_eq.mpr c40
                        clear c40
                        simp only [Option.some.injEq, Prod.mk.injEq] at H
                        obtain ⟨rfl, rfl, rfl, rfl, rfl, rfl⟩ := H
                        have hnb41 := NB113_112.out
                        have hnc41 := NB112_113.out
                        have hcz42_0 : wc.cell? ⟨gb113, 0, none⟩ = some (.int .i64 (wrap64 (a0 / 16777216))) := (blk_cell BK113.out 0).trans rfl
                        have hcz42_1 : wc.cell? ⟨gb113, 1, none⟩ = some (.int .i64 x114001_2) := (blk_cell BK113.out 1).trans rfl
                        have hcz42_2 : wc.cell? ⟨gb113, 2, none⟩ = some (.int .i64 x114002_10) := (blk_cell BK113.out 2).trans rfl
                        have hcz42_3 : wc.cell? ⟨gb113, 3, none⟩ = some (.int .i64 x114003_14) := (blk_cell BK113.out 3).trans rfl
                        have hcz42_4 : wc.cell? ⟨gb113, 4, none⟩ = some (.int .i32 0) := (blk_cell BK113.out 4).trans rfl
                        have hfz42_0 := blk_frozen BK113.out 0
                        have hfz42_1 := blk_frozen BK113.out 1
                        have hfz42_2 := blk_frozen BK113.out 2
                        have hfz42_3 := blk_frozen BK113.out 3
                        have hfz42_4 := blk_frozen BK113.out 4
                        go_wp2_with (first | ((with_reducible refine gate_callee (f := 7) rfl ?_); refine goesL_ (some 66) rfl rfl Try.func7 (by kernel_rfl) rfl #[.agg #[.int .i64 (wrap64 (a0 / 16777216)), .int .i64 x114001_2, .int .i64 x114002_10, .int .i64 x114003_14, .int .i32 ((wrap32 ((a0 * 256) % 4294967296)) / 256)]] rfl (by (try simp only [List.map_toArray, List.map_cons, List.map_nil]); first | done | rfl | (simp only [List.length_drop, List.length_take]; rfl)) ?_; (with_reducible refine (isa_Encode.calls kj14 (wrap64 (a0 / 16777216)) x114001_2 x114002_10 x114003_14 ((wrap32 ((a0 * 256) % 4294967296)) / 256) t117 t118 _ A38.out).mono ?_); rintro e w43 ⟨rfl, hb⟩; refine ⟨_, rfl, ?_⟩; have n0_ := Aside0.mk (blk_below (g := gb112) (o := .cells #[.int .i64 0, .int .i64 0, .int .i64 0, .int .i64 0, .int .i32 0] 23 (0, 0)) (by (with_reducible repeat (first | refine blk_drewN ?_ _ | refine blk_drew ?_ | refine blk_alloc ?_ _)); refine blk_far ?_ NB112_113.out _; (with_reducible repeat (first | refine blk_drewN ?_ _ | refine blk_drew ?_ | refine blk_alloc ?_ _)); exact BK112.out) hb); have n1_ := Aside0.mk (blk_below (g := gb113) (o := .cells #[.int .i64 (wrap64 (a0 / 16777216)), .int .i64 x114001_2, .int .i64 x114002_10, .int .i64 x114003_14, .int .i32 ((wrap32 ((a0 * 256) % 4294967296)) / 256)] 23 (0, 0)) (by (with_reducible repeat (first | refine blk_drewN ?_ _ | refine blk_drew ?_ | refine blk_alloc ?_ _)); refine blk_put (cs := #[.int .i64 (wrap64 (a0 / 16777216)), .int .i64 x114001_2, .int .i64 x114002_10, .int .i64 x114003_14, .int .i32 0]) ?_ 4 _ rfl; (with_reducible repeat (first | refine blk_drewN ?_ _ | refine blk_drew ?_ | refine blk_alloc ?_ _)); exact BK113.out) hb); have n2_ := Aside0.mk (below_step (by repeat (first | (with_reducible first | exact HB.out | apply below_alloc | apply pw_below_drewN | apply below_drew1 | refine below_set ?_ GE112.out | refine below_set ?_ GE113.out) | exact HB.out)) hb); clear BK112; clear BK113; clear HB; have BK112 := n0_; have BK113 := n1_; have HB := n2_; clear n0_ n1_ n2_; (try clear hb); (try clear hb2); (try clear hk); (try clear hi); have hcz44_0 : w43.cell? ⟨gb113, 0, none⟩ = some (.int .i64 (wrap64 (a0 / 16777216))) := (blk_cell BK113.out 0).trans rfl; have hcz44_1 : w43.cell? ⟨gb113, 1, none⟩ = some (.int .i64 x114001_2) := (blk_cell BK113.out 1).trans rfl; have hcz44_2 : w43.cell? ⟨gb113, 2, none⟩ = some (.int .i64 x114002_10) := (blk_cell BK113.out 2).trans rfl; have hcz44_3 : w43.cell? ⟨gb113, 3, none⟩ = some (.int .i64 x114003_14) := (blk_cell BK113.out 3).trans rfl; have hcz44_4 : w43.cell? ⟨gb113, 4, none⟩ = some (.int .i32 ((wrap32 ((a0 * 256) % 4294967296)) / 256)) := (blk_cell BK113.out 4).trans rfl; have hfz44_0 := blk_frozen BK113.out 0; have hfz44_1 := blk_frozen BK113.out 1; have hfz44_2 := blk_frozen BK113.out 2; have hfz44_3 := blk_frozen BK113.out 3; have hfz44_4 := blk_frozen BK113.out 4; have hcz45_0 : w43.cell? ⟨gb112, 0, none⟩ = some (.int .i64 0) := (blk_cell BK112.out 0).trans rfl; have hcz45_1 : w43.cell? ⟨gb112, 1, none⟩ = some (.int .i64 0) := (blk_cell BK112.out 1).trans rfl; have hcz45_2 : w43.cell? ⟨gb112, 2, none⟩ = some (.int .i64 0) := (blk_cell BK112.out 2).trans rfl; have hcz45_3 : w43.cell? ⟨gb112, 3, none⟩ = some (.int .i64 0) := (blk_cell BK112.out 3).trans rfl; have hcz45_4 : w43.cell? ⟨gb112, 4, none⟩ = some (.int .i32 0) := (blk_cell BK112.out 4).trans rfl; have hfz45_0 := blk_frozen BK112.out 0; have hfz45_1 := blk_frozen BK112.out 1; have hfz45_2 := blk_frozen BK112.out 2; have hfz45_3 := blk_frozen BK112.out 3; have hfz45_4 := blk_frozen BK112.out 4))
                        refine bodyPost_ret (results_ct rfl _ _ gb112 23 #[.int .i64 (wrap64 (a0 / 16777216)), .int .i64 x114001_2, .int .i64 x114002_10, .int .i64 x114003_14, .int .i32 ((wrap32 ((a0 * 256) % 4294967296)) / 256)] (0, 0) _ rfl (by (with_reducible repeat (first | refine blk_drewN ?_ _ | refine blk_drew ?_ | refine blk_alloc ?_ _)); refine blk_put (cs := #[.int .i64 (wrap64 (a0 / 16777216)), .int .i64 x114001_2, .int .i64 x114002_10, .int .i64 x114003_14, .int .i32 0]) ?_ 4 _ rfl; (with_reducible repeat (first | refine blk_drewN ?_ _ | refine blk_drew ?_ | refine blk_alloc ?_ _)); refine blk_put (cs := #[.int .i64 (wrap64 (a0 / 16777216)), .int .i64 x114001_2, .int .i64 x114002_10, .int .i64 0, .int .i32 0]) ?_ 3 _ rfl; (with_reducible repeat (first | refine blk_drewN ?_ _ | refine blk_drew ?_ | refine blk_alloc ?_ _)); refine blk_put (cs := #[.int .i64 (wrap64 (a0 / 16777216)), .int .i64 x114001_2, .int .i64 0, .int .i64 0, .int .i32 0]) ?_ 2 _ rfl; (with_reducible repeat (first | refine blk_drewN ?_ _ | refine blk_drew ?_ | refine blk_alloc ?_ _)); refine blk_put (cs := #[.int .i64 (wrap64 (a0 / 16777216)), .int .i64 0, .int .i64 0, .int .i64 0, .int .i32 0]) ?_ 1 _ rfl; (with_reducible repeat (first | refine blk_drewN ?_ _ | refine blk_drew ?_ | refine blk_alloc ?_ _)); refine blk_put (cs := #[.int .i64 0, .int .i64 0, .int .i64 0, .int .i64 0, .int .i32 0]) ?_ 0 _ rfl; (with_reducible repeat (first | refine blk_drewN ?_ _ | refine blk_drew ?_ | refine blk_alloc ?_ _)); exact BK112.out) Try.underlying23 rfl (by kernel_rfl)) rfl ?_
                        exact ⟨by first | rfl | (simp [errW_none, errW_some] <;> rfl) | (simp [*, errW_none, errW_some] <;> rfl), by repeat (first | (with_reducible first | exact HB.out | apply below_alloc | apply pw_below_drewN | apply below_drew1 | refine below_set ?_ GE112.out | refine below_set ?_ GE113.out) | exact HB.out)⟩
                      · rw [if_neg c40] at H
                        have c40b0 : (t117 == a0) = false := beq_eq_false_iff_ne.mpr c40
                        have c40b1 : (t117 != a0) = true := bne_iff_ne.mpr c40
                        simp only [Option.some.injEq, Prod.mk.injEq] at H
                        obtain ⟨rfl, rfl, rfl, rfl, rfl, rfl⟩ := H
                        have hnb46 := NB113_112.out
                        have hnc46 := NB112_113.out
                        have hcz47_0 : wc.cell? ⟨gb113, 0, none⟩ = some (.int .i64 (wrap64 (a0 / 16777216))) := (blk_cell BK113.out 0).trans rfl
                        have hcz47_1 : wc.cell? ⟨gb113, 1, none⟩ = some (.int .i64 x114001_2) := (blk_cell BK113.out 1).trans rfl
                        have hcz47_2 : wc.cell? ⟨gb113, 2, none⟩ = some (.int .i64 x114002_10) := (blk_cell BK113.out 2).trans rfl
                        have hcz47_3 : wc.cell? ⟨gb113, 3, none⟩ = some (.int .i64 x114003_14) := (blk_cell BK113.out 3).trans rfl
                        have hcz47_4 : wc.cell? ⟨gb113, 4, none⟩ = some (.int .i32 0) := (blk_cell BK113.out 4).trans rfl
                        have hfz47_0 := blk_frozen BK113.out 0
                        have hfz47_1 := blk_frozen BK113.out 1
                        have hfz47_2 := blk_frozen BK113.out 2
                        have hfz47_3 := blk_frozen BK113.out 3
                        have hfz47_4 := blk_frozen BK113.out 4
                        go_wp2_with (first | ((with_reducible refine gate_callee (f := 7) rfl ?_); refine goesL_ (some 66) rfl rfl Try.func7 (by kernel_rfl) rfl #[.agg #[.int .i64 (wrap64 (a0 / 16777216)), .int .i64 x114001_2, .int .i64 x114002_10, .int .i64 x114003_14, .int .i32 ((wrap32 ((a0 * 256) % 4294967296)) / 256)]] rfl (by (try simp only [List.map_toArray, List.map_cons, List.map_nil]); first | done | rfl | (simp only [List.length_drop, List.length_take]; rfl)) ?_; (with_reducible refine (isa_Encode.calls kj14 (wrap64 (a0 / 16777216)) x114001_2 x114002_10 x114003_14 ((wrap32 ((a0 * 256) % 4294967296)) / 256) t117 t118 _ A38.out).mono ?_); rintro e w48 ⟨rfl, hb⟩; refine ⟨_, rfl, ?_⟩; have n0_ := Aside0.mk (blk_below (g := gb112) (o := .cells #[.int .i64 0, .int .i64 0, .int .i64 0, .int .i64 0, .int .i32 0] 23 (0, 0)) (by (with_reducible repeat (first | refine blk_drewN ?_ _ | refine blk_drew ?_ | refine blk_alloc ?_ _)); refine blk_far ?_ NB112_113.out _; (with_reducible repeat (first | refine blk_drewN ?_ _ | refine blk_drew ?_ | refine blk_alloc ?_ _)); exact BK112.out) hb); have n1_ := Aside0.mk (blk_below (g := gb113) (o := .cells #[.int .i64 (wrap64 (a0 / 16777216)), .int .i64 x114001_2, .int .i64 x114002_10, .int .i64 x114003_14, .int .i32 ((wrap32 ((a0 * 256) % 4294967296)) / 256)] 23 (0, 0)) (by (with_reducible repeat (first | refine blk_drewN ?_ _ | refine blk_drew ?_ | refine blk_alloc ?_ _)); refine blk_put (cs := #[.int .i64 (wrap64 (a0 / 16777216)), .int .i64 x114001_2, .int .i64 x114002_10, .int .i64 x114003_14, .int .i32 0]) ?_ 4 _ rfl; (with_reducible repeat (first | refine blk_drewN ?_ _ | refine blk_drew ?_ | refine blk_alloc ?_ _)); exact BK113.out) hb); have n2_ := Aside0.mk (below_step (by repeat (first | (with_reducible first | exact HB.out | apply below_alloc | apply pw_below_drewN | apply below_drew1 | refine below_set ?_ GE112.out | refine below_set ?_ GE113.out) | exact HB.out)) hb); clear BK112; clear BK113; clear HB; have BK112 := n0_; have BK113 := n1_; have HB := n2_; clear n0_ n1_ n2_; (try clear hb); (try clear hb2); (try clear hk); (try clear hi); have hcz49_0 : w48.cell? ⟨gb112, 0, none⟩ = some (.int .i64 0) := (blk_cell BK112.out 0).trans rfl; have hcz49_1 : w48.cell? ⟨gb112, 1, none⟩ = some (.int .i64 0) := (blk_cell BK112.out 1).trans rfl; have hcz49_2 : w48.cell? ⟨gb112, 2, none⟩ = some (.int .i64 0) := (blk_cell BK112.out 2).trans rfl; have hcz49_3 : w48.cell? ⟨gb112, 3, none⟩ = some (.int .i64 0) := (blk_cell BK112.out 3).trans rfl; have hcz49_4 : w48.cell? ⟨gb112, 4, none⟩ = some (.int .i32 0) := (blk_cell BK112.out 4).trans rfl; have hfz49_0 := blk_frozen BK112.out 0; have hfz49_1 := blk_frozen BK112.out 1; have hfz49_2 := blk_frozen BK112.out 2; have hfz49_3 := blk_frozen BK112.out 3; have hfz49_4 := blk_frozen BK112.out 4))
                        refine bodyPost_ret (results_ct rfl _ _ gb112 23 #[.int .i64 0, .int .i64 0, .int .i64 0, .int .i64 0, .int .i32 0] (0, 0) _ rfl (by (with_reducible repeat (first | refine blk_drewN ?_ _ | refine blk_drew ?_ | refine blk_alloc ?_ _)); refine blk_put (cs := #[.int .i64 0, .int .i64 0, .int .i64 0, .int .i64 0, .int .i32 0]) ?_ 4 _ rfl; (with_reducible repeat (first | refine blk_drewN ?_ _ | refine blk_drew ?_ | refine blk_alloc ?_ _)); refine blk_put (cs := #[.int .i64 0, .int .i64 0, .int .i64 0, .int .i64 0, .int .i32 0]) ?_ 3 _ rfl; (with_reducible repeat (first | refine blk_drewN ?_ _ | refine blk_drew ?_ | refine blk_alloc ?_ _)); refine blk_put (cs := #[.int .i64 0, .int .i64 0, .int .i64 0, .int .i64 0, .int .i32 0]) ?_ 2 _ rfl; (with_reducible repeat (first | refine blk_drewN ?_ _ | refine blk_drew ?_ | refine blk_alloc ?_ _)); refine blk_put (cs := #[.int .i64 0, .int .i64 0, .int .i64 0, .int .i64 0, .int .i32 0]) ?_ 1 _ rfl; (with_reducible repeat (first | refine blk_drewN ?_ _ | refine blk_drew ?_ | refine blk_alloc ?_ _)); refine blk_put (cs := #[.int .i64 0, .int .i64 0, .int .i64 0, .int .i64 0, .int .i32 0]) ?_ 0 _ rfl; (with_reducible repeat (first | refine blk_drewN ?_ _ | refine blk_drew ?_ | refine blk_alloc ?_ _)); exact BK112.out) Try.underlying23 rfl (by kernel_rfl)) rfl ?_
                        exact ⟨by first | rfl | (simp [errW_none, errW_some] <;> rfl) | (simp [*, errW_none, errW_some] <;> rfl), by repeat (first | (with_reducible first | exact HB.out | apply below_alloc | apply pw_below_drewN | apply below_drew1 | refine below_set ?_ GE112.out | refine below_set ?_ GE113.out) | exact HB.out)⟩
                    · rw [if_neg c39] at H
                      have c39b0 : (t118 == 0) = false := beq_eq_false_iff_ne.mpr c39
                      have c39b1 : (t118 != 0) = true := bne_iff_ne.mpr c39
                      simp only [Option.some.injEq, Prod.mk.injEq] at H
                      obtain ⟨rfl, rfl, rfl, rfl, rfl, rfl⟩ := H
                      have hnb50 := NB113_112.out
                      have hnc50 := NB112_113.out
                      have hcz51_0 : wc.cell? ⟨gb113, 0, none⟩ = some (.int .i64 (wrap64 (a0 / 16777216))) := (blk_cell BK113.out 0).trans rfl
                      have hcz51_1 : wc.cell? ⟨gb113, 1, none⟩ = some (.int .i64 x114001_2) := (blk_cell BK113.out 1).trans rfl
                      have hcz51_2 : wc.cell? ⟨gb113, 2, none⟩ = some (.int .i64 x114002_10) := (blk_cell BK113.out 2).trans rfl
                      have hcz51_3 : wc.cell? ⟨gb113, 3, none⟩ = some (.int .i64 x114003_14) := (blk_cell BK113.out 3).trans rfl
                      have hcz51_4 : wc.cell? ⟨gb113, 4, none⟩ = some (.int .i32 0) := (blk_cell BK113.out 4).trans rfl
                      have hfz51_0 := blk_frozen BK113.out 0
                      have hfz51_1 := blk_frozen BK113.out 1
                      have hfz51_2 := blk_frozen BK113.out 2
                      have hfz51_3 := blk_frozen BK113.out 3
                      have hfz51_4 := blk_frozen BK113.out 4
                      go_wp2_with (first | ((with_reducible refine gate_callee (f := 7) rfl ?_); refine goesL_ (some 66) rfl rfl Try.func7 (by kernel_rfl) rfl #[.agg #[.int .i64 (wrap64 (a0 / 16777216)), .int .i64 x114001_2, .int .i64 x114002_10, .int .i64 x114003_14, .int .i32 ((wrap32 ((a0 * 256) % 4294967296)) / 256)]] rfl (by (try simp only [List.map_toArray, List.map_cons, List.map_nil]); first | done | rfl | (simp only [List.length_drop, List.length_take]; rfl)) ?_; (with_reducible refine (isa_Encode.calls kj14 (wrap64 (a0 / 16777216)) x114001_2 x114002_10 x114003_14 ((wrap32 ((a0 * 256) % 4294967296)) / 256) t117 t118 _ A38.out).mono ?_); rintro e w52 ⟨rfl, hb⟩; refine ⟨_, rfl, ?_⟩; have n0_ := Aside0.mk (blk_below (g := gb112) (o := .cells #[.int .i64 0, .int .i64 0, .int .i64 0, .int .i64 0, .int .i32 0] 23 (0, 0)) (by (with_reducible repeat (first | refine blk_drewN ?_ _ | refine blk_drew ?_ | refine blk_alloc ?_ _)); refine blk_far ?_ NB112_113.out _; (with_reducible repeat (first | refine blk_drewN ?_ _ | refine blk_drew ?_ | refine blk_alloc ?_ _)); exact BK112.out) hb); have n1_ := Aside0.mk (blk_below (g := gb113) (o := .cells #[.int .i64 (wrap64 (a0 / 16777216)), .int .i64 x114001_2, .int .i64 x114002_10, .int .i64 x114003_14, .int .i32 ((wrap32 ((a0 * 256) % 4294967296)) / 256)] 23 (0, 0)) (by (with_reducible repeat (first | refine blk_drewN ?_ _ | refine blk_drew ?_ | refine blk_alloc ?_ _)); refine blk_put (cs := #[.int .i64 (wrap64 (a0 / 16777216)), .int .i64 x114001_2, .int .i64 x114002_10, .int .i64 x114003_14, .int .i32 0]) ?_ 4 _ rfl; (with_reducible repeat (first | refine blk_drewN ?_ _ | refine blk_drew ?_ | refine blk_alloc ?_ _)); exact BK113.out) hb); have n2_ := Aside0.mk (below_step (by repeat (first | (with_reducible first | exact HB.out | apply below_alloc | apply pw_below_drewN | apply below_drew1 | refine below_set ?_ GE112.out | refine below_set ?_ GE113.out) | exact HB.out)) hb); clear BK112; clear BK113; clear HB; have BK112 := n0_; have BK113 := n1_; have HB := n2_; clear n0_ n1_ n2_; (try clear hb); (try clear hb2); (try clear hk); (try clear hi); have hcz53_0 : w52.cell? ⟨gb112, 0, none⟩ = some (.int .i64 0) := (blk_cell BK112.out 0).trans rfl; have hcz53_1 : w52.cell? ⟨gb112, 1, none⟩ = some (.int .i64 0) := (blk_cell BK112.out 1).trans rfl; have hcz53_2 : w52.cell? ⟨gb112, 2, none⟩ = some (.int .i64 0) := (blk_cell BK112.out 2).trans rfl; have hcz53_3 : w52.cell? ⟨gb112, 3, none⟩ = some (.int .i64 0) := (blk_cell BK112.out 3).trans rfl; have hcz53_4 : w52.cell? ⟨gb112, 4, none⟩ = some (.int .i32 0) := (blk_cell BK112.out 4).trans rfl; have hfz53_0 := blk_frozen BK112.out 0; have hfz53_1 := blk_frozen BK112.out 1; have hfz53_2 := blk_frozen BK112.out 2; have hfz53_3 := blk_frozen BK112.out 3; have hfz53_4 := blk_frozen BK112.out 4))
                      refine bodyPost_ret (results_ct rfl _ _ gb112 23 #[.int .i64 0, .int .i64 0, .int .i64 0, .int .i64 0, .int .i32 0] (0, 0) _ rfl (by (with_reducible repeat (first | refine blk_drewN ?_ _ | refine blk_drew ?_ | refine blk_alloc ?_ _)); refine blk_put (cs := #[.int .i64 0, .int .i64 0, .int .i64 0, .int .i64 0, .int .i32 0]) ?_ 4 _ rfl; (with_reducible repeat (first | refine blk_drewN ?_ _ | refine blk_drew ?_ | refine blk_alloc ?_ _)); refine blk_put (cs := #[.int .i64 0, .int .i64 0, .int .i64 0, .int .i64 0, .int .i32 0]) ?_ 3 _ rfl; (with_reducible repeat (first | refine blk_drewN ?_ _ | refine blk_drew ?_ | refine blk_alloc ?_ _)); refine blk_put (cs := #[.int .i64 0, .int .i64 0, .int .i64 0, .int .i64 0, .int .i32 0]) ?_ 2 _ rfl; (with_reducible repeat (first | refine blk_drewN ?_ _ | refine blk_drew ?_ | refine blk_alloc ?_ _)); refine blk_put (cs := #[.int .i64 0, .int .i64 0, .int .i64 0, .int .i64 0, .int .i32 0]) ?_ 1 _ rfl; (with_reducible repeat (first | refine blk_drewN ?_ _ | refine blk_drew ?_ | refine blk_alloc ?_ _)); refine blk_put (cs := #[.int .i64 0, .int .i64 0, .int .i64 0, .int .i64 0, .int .i32 0]) ?_ 0 _ rfl; (with_reducible repeat (first | refine blk_drewN ?_ _ | refine blk_drew ?_ | refine blk_alloc ?_ _)); exact BK112.out) Try.underlying23 rfl (by kernel_rfl)) rfl ?_
                      exact ⟨by first | rfl | (simp [errW_none, errW_some] <;> rfl) | (simp [*, errW_none, errW_some] <;> rfl), by repeat (first | (with_reducible first | exact HB.out | apply below_alloc | apply pw_below_drewN | apply below_drew1 | refine below_set ?_ GE112.out | refine below_set ?_ GE113.out) | exact HB.out)⟩
                · rw [if_neg c20] at H
                  have c20b0 : ((Go.bits .and .i64 t114 80) == 0) = false := beq_eq_false_iff_ne.mpr c20
                  have c20b1 : ((Go.bits .and .i64 t114 80) != 0) = true := bne_iff_ne.mpr c20
                  replace H := Option.bind_eq_some_iff.mp H
                  obtain ⟨⟨t119, t120⟩, A540, H⟩ := H
                  replace H : (if t120 = 0 then (if t119 = a0 then (some ((wrap64 (a0 / 16777216)), x114001_2, x114002_10, x114003_14, wrap32 (Go.bits .and .u32 a0 65535), 0)) else (some (0, 0, 0, 0, 0, 1))) else (some (0, 0, 0, 0, 0, 1))) = some (r1, r2, r3, r4, r5, r6) := H
                  have A54 := Aside0.mk A540
                  clear A540
                  by_cases c55 : t120 = 0
                  · rw [if_pos c55] at H
                    have c55b0 : (t120 == 0) = true := beq_iff_eq.mpr c55
                    have c55b1 : (t120 != 0) = false := bne_eq_false_iff_eq.mpr c55
                    clear c55
                    by_cases c56 : t119 = a0
                    · rw [if_pos c56] at H
                      have c56b0 : (t119 == a0) = true := beq_iff_eq.mpr c56
                      have c56b1 : (t119 != a0) = false := bne_eq_false_iff_eq.mpr c56
                      clear c56
                      simp only [Option.some.injEq, Prod.mk.injEq] at H
                      obtain ⟨rfl, rfl, rfl, rfl, rfl, rfl⟩ := H
                      have hnb57 := NB113_112.out
                      have hnc57 := NB112_113.out
                      have hcz58_0 : wc.cell? ⟨gb113, 0, none⟩ = some (.int .i64 (wrap64 (a0 / 16777216))) := (blk_cell BK113.out 0).trans rfl
                      have hcz58_1 : wc.cell? ⟨gb113, 1, none⟩ = some (.int .i64 x114001_2) := (blk_cell BK113.out 1).trans rfl
                      have hcz58_2 : wc.cell? ⟨gb113, 2, none⟩ = some (.int .i64 x114002_10) := (blk_cell BK113.out 2).trans rfl
                      have hcz58_3 : wc.cell? ⟨gb113, 3, none⟩ = some (.int .i64 x114003_14) := (blk_cell BK113.out 3).trans rfl
                      have hcz58_4 : wc.cell? ⟨gb113, 4, none⟩ = some (.int .i32 0) := (blk_cell BK113.out 4).trans rfl
                      have hfz58_0 := blk_frozen BK113.out 0
                      have hfz58_1 := blk_frozen BK113.out 1
                      have hfz58_2 := blk_frozen BK113.out 2
                      have hfz58_3 := blk_frozen BK113.out 3
                      have hfz58_4 := blk_frozen BK113.out 4
                      go_wp2_with (first | ((with_reducible refine gate_callee (f := 7) rfl ?_); refine goesL_ (some 66) rfl rfl Try.func7 (by kernel_rfl) rfl #[.agg #[.int .i64 (wrap64 (a0 / 16777216)), .int .i64 x114001_2, .int .i64 x114002_10, .int .i64 x114003_14, .int .i32 (wrap32 (Go.bits .and .u32 a0 65535))]] rfl (by (try simp only [List.map_toArray, List.map_cons, List.map_nil]); first | done | rfl | (simp only [List.length_drop, List.length_take]; rfl)) ?_; (with_reducible refine (isa_Encode.calls kj14 (wrap64 (a0 / 16777216)) x114001_2 x114002_10 x114003_14 (wrap32 (Go.bits .and .u32 a0 65535)) t119 t120 _ A54.out).mono ?_); rintro e w59 ⟨rfl, hb⟩; refine ⟨_, rfl, ?_⟩; have n0_ := Aside0.mk (blk_below (g := gb112) (o := .cells #[.int .i64 0, .int .i64 0, .int .i64 0, .int .i64 0, .int .i32 0] 23 (0, 0)) (by (with_reducible repeat (first | refine blk_drewN ?_ _ | refine blk_drew ?_ | refine blk_alloc ?_ _)); refine blk_far ?_ NB112_113.out _; (with_reducible repeat (first | refine blk_drewN ?_ _ | refine blk_drew ?_ | refine blk_alloc ?_ _)); exact BK112.out) hb); have n1_ := Aside0.mk (blk_below (g := gb113) (o := .cells #[.int .i64 (wrap64 (a0 / 16777216)), .int .i64 x114001_2, .int .i64 x114002_10, .int .i64 x114003_14, .int .i32 (wrap32 (Go.bits .and .u32 a0 65535))] 23 (0, 0)) (by (with_reducible repeat (first | refine blk_drewN ?_ _ | refine blk_drew ?_ | refine blk_alloc ?_ _)); refine blk_put (cs := #[.int .i64 (wrap64 (a0 / 16777216)), .int .i64 x114001_2, .int .i64 x114002_10, .int .i64 x114003_14, .int .i32 0]) ?_ 4 _ rfl; (with_reducible repeat (first | refine blk_drewN ?_ _ | refine blk_drew ?_ | refine blk_alloc ?_ _)); exact BK113.out) hb); have n2_ := Aside0.mk (below_step (by repeat (first | (with_reducible first | exact HB.out | apply below_alloc | apply pw_below_drewN | apply below_drew1 | refine below_set ?_ GE112.out | refine below_set ?_ GE113.out) | exact HB.out)) hb); clear BK112; clear BK113; clear HB; have BK112 := n0_; have BK113 := n1_; have HB := n2_; clear n0_ n1_ n2_; (try clear hb); (try clear hb2); (try clear hk); (try clear hi); have hcz60_0 : w59.cell? ⟨gb113, 0, none⟩ = some (.int .i64 (wrap64 (a0 / 16777216))) := (blk_cell BK113.out 0).trans rfl; have hcz60_1 : w59.cell? ⟨gb113, 1, none⟩ = some (.int .i64 x114001_2) := (blk_cell BK113.out 1).trans rfl; have hcz60_2 : w59.cell? ⟨gb113, 2, none⟩ = some (.int .i64 x114002_10) := (blk_cell BK113.out 2).trans rfl; have hcz60_3 : w59.cell? ⟨gb113, 3, none⟩ = some (.int .i64 x114003_14) := (blk_cell BK113.out 3).trans rfl; have hcz60_4 : w59.cell? ⟨gb113, 4, none⟩ = some (.int .i32 (wrap32 (Go.bits .and .u32 a0 65535))) := (blk_cell BK113.out 4).trans rfl; have hfz60_0 := blk_frozen BK113.out 0; have hfz60_1 := blk_frozen BK113.out 1; have hfz60_2 := blk_frozen BK113.out 2; have hfz60_3 := blk_frozen BK113.out 3; have hfz60_4 := blk_frozen BK113.out 4; have hcz61_0 : w59.cell? ⟨gb112, 0, none⟩ = some (.int .i64 0) := (blk_cell BK112.out 0).trans rfl; have hcz61_1 : w59.cell? ⟨gb112, 1, none⟩ = some (.int .i64 0) := (blk_cell BK112.out 1).trans rfl; have hcz61_2 : w59.cell? ⟨gb112, 2, none⟩ = some (.int .i64 0) := (blk_cell BK112.out 2).trans rfl; have hcz61_3 : w59.cell? ⟨gb112, 3, none⟩ = some (.int .i64 0) := (blk_cell BK112.out 3).trans rfl; have hcz61_4 : w59.cell? ⟨gb112, 4, none⟩ = some (.int .i32 0) := (blk_cell BK112.out 4).trans rfl; have hfz61_0 := blk_frozen BK112.out 0; have hfz61_1 := blk_frozen BK112.out 1; have hfz61_2 := blk_frozen BK112.out 2; have hfz61_3 := blk_frozen BK112.out 3; have hfz61_4 := blk_frozen BK112.out 4))
                      refine bodyPost_ret (results_ct rfl _ _ gb112 23 #[.int .i64 (wrap64 (a0 / 16777216)), .int .i64 x114001_2, .int .i64 x114002_10, .int .i64 x114003_14, .int .i32 (wrap32 (Go.bits .and .u32 a0 65535))] (0, 0) _ rfl (by (with_reducible repeat (first | refine blk_drewN ?_ _ | refine blk_drew ?_ | refine blk_alloc ?_ _)); refine blk_put (cs := #[.int .i64 (wrap64 (a0 / 16777216)), .int .i64 x114001_2, .int .i64 x114002_10, .int .i64 x114003_14, .int .i32 0]) ?_ 4 _ rfl; (with_reducible repeat (first | refine blk_drewN ?_ _ | refine blk_drew ?_ | refine blk_alloc ?_ _)); refine blk_put (cs := #[.int .i64 (wrap64 (a0 / 16777216)), .int .i64 x114001_2, .int .i64 x114002_10, .int .i64 0, .int .i32 0]) ?_ 3 _ rfl; (with_reducible repeat (first | refine blk_drewN ?_ _ | refine blk_drew ?_ | refine blk_alloc ?_ _)); refine blk_put (cs := #[.int .i64 (wrap64 (a0 / 16777216)), .int .i64 x114001_2, .int .i64 0, .int .i64 0, .int .i32 0]) ?_ 2 _ rfl; (with_reducible repeat (first | refine blk_drewN ?_ _ | refine blk_drew ?_ | refine blk_alloc ?_ _)); refine blk_put (cs := #[.int .i64 (wrap64 (a0 / 16777216)), .int .i64 0, .int .i64 0, .int .i64 0, .int .i32 0]) ?_ 1 _ rfl; (with_reducible repeat (first | refine blk_drewN ?_ _ | refine blk_drew ?_ | refine blk_alloc ?_ _)); refine blk_put (cs := #[.int .i64 0, .int .i64 0, .int .i64 0, .int .i64 0, .int .i32 0]) ?_ 0 _ rfl; (with_reducible repeat (first | refine blk_drewN ?_ _ | refine blk_drew ?_ | refine blk_alloc ?_ _)); exact BK112.out) Try.underlying23 rfl (by kernel_rfl)) rfl ?_
                      exact ⟨by first | rfl | (simp [errW_none, errW_some] <;> rfl) | (simp [*, errW_none, errW_some] <;> rfl), by repeat (first | (with_reducible first | exact HB.out | apply below_alloc | apply pw_below_drewN | apply below_drew1 | refine below_set ?_ GE112.out | refine below_set ?_ GE113.out) | exact HB.out)⟩
                    · rw [if_neg c56] at H
                      have c56b0 : (t119 == a0) = false := beq_eq_false_iff_ne.mpr c56
                      have c56b1 : (t119 != a0) = true := bne_iff_ne.mpr c56
                      simp only [Option.some.injEq, Prod.mk.injEq] at H
                      obtain ⟨rfl, rfl, rfl, rfl, rfl, rfl⟩ := H
                      have hnb62 := NB113_112.out
                      have hnc62 := NB112_113.out
                      have hcz63_0 : wc.cell? ⟨gb113, 0, none⟩ = some (.int .i64 (wrap64 (a0 / 16777216))) := (blk_cell BK113.out 0).trans rfl
                      have hcz63_1 : wc.cell? ⟨gb113, 1, none⟩ = some (.int .i64 x114001_2) := (blk_cell BK113.out 1).trans rfl
                      have hcz63_2 : wc.cell? ⟨gb113, 2, none⟩ = some (.int .i64 x114002_10) := (blk_cell BK113.out 2).trans rfl
                      have hcz63_3 : wc.cell? ⟨gb113, 3, none⟩ = some (.int .i64 x114003_14) := (blk_cell BK113.out 3).trans rfl
                      have hcz63_4 : wc.cell? ⟨gb113, 4, none⟩ = some (.int .i32 0) := (blk_cell BK113.out 4).trans rfl
                      have hfz63_0 := blk_frozen BK113.out 0
                      have hfz63_1 := blk_frozen BK113.out 1
                      have hfz63_2 := blk_frozen BK113.out 2
                      have hfz63_3 := blk_frozen BK113.out 3
                      have hfz63_4 := blk_frozen BK113.out 4
                      go_wp2_with (first | ((with_reducible refine gate_callee (f := 7) rfl ?_); refine goesL_ (some 66) rfl rfl Try.func7 (by kernel_rfl) rfl #[.agg #[.int .i64 (wrap64 (a0 / 16777216)), .int .i64 x114001_2, .int .i64 x114002_10, .int .i64 x114003_14, .int .i32 (wrap32 (Go.bits .and .u32 a0 65535))]] rfl (by (try simp only [List.map_toArray, List.map_cons, List.map_nil]); first | done | rfl | (simp only [List.length_drop, List.length_take]; rfl)) ?_; (with_reducible refine (isa_Encode.calls kj14 (wrap64 (a0 / 16777216)) x114001_2 x114002_10 x114003_14 (wrap32 (Go.bits .and .u32 a0 65535)) t119 t120 _ A54.out).mono ?_); rintro e w64 ⟨rfl, hb⟩; refine ⟨_, rfl, ?_⟩; have n0_ := Aside0.mk (blk_below (g := gb112) (o := .cells #[.int .i64 0, .int .i64 0, .int .i64 0, .int .i64 0, .int .i32 0] 23 (0, 0)) (by (with_reducible repeat (first | refine blk_drewN ?_ _ | refine blk_drew ?_ | refine blk_alloc ?_ _)); refine blk_far ?_ NB112_113.out _; (with_reducible repeat (first | refine blk_drewN ?_ _ | refine blk_drew ?_ | refine blk_alloc ?_ _)); exact BK112.out) hb); have n1_ := Aside0.mk (blk_below (g := gb113) (o := .cells #[.int .i64 (wrap64 (a0 / 16777216)), .int .i64 x114001_2, .int .i64 x114002_10, .int .i64 x114003_14, .int .i32 (wrap32 (Go.bits .and .u32 a0 65535))] 23 (0, 0)) (by (with_reducible repeat (first | refine blk_drewN ?_ _ | refine blk_drew ?_ | refine blk_alloc ?_ _)); refine blk_put (cs := #[.int .i64 (wrap64 (a0 / 16777216)), .int .i64 x114001_2, .int .i64 x114002_10, .int .i64 x114003_14, .int .i32 0]) ?_ 4 _ rfl; (with_reducible repeat (first | refine blk_drewN ?_ _ | refine blk_drew ?_ | refine blk_alloc ?_ _)); exact BK113.out) hb); have n2_ := Aside0.mk (below_step (by repeat (first | (with_reducible first | exact HB.out | apply below_alloc | apply pw_below_drewN | apply below_drew1 | refine below_set ?_ GE112.out | refine below_set ?_ GE113.out) | exact HB.out)) hb); clear BK112; clear BK113; clear HB; have BK112 := n0_; have BK113 := n1_; have HB := n2_; clear n0_ n1_ n2_; (try clear hb); (try clear hb2); (try clear hk); (try clear hi); have hcz65_0 : w64.cell? ⟨gb112, 0, none⟩ = some (.int .i64 0) := (blk_cell BK112.out 0).trans rfl; have hcz65_1 : w64.cell? ⟨gb112, 1, none⟩ = some (.int .i64 0) := (blk_cell BK112.out 1).trans rfl; have hcz65_2 : w64.cell? ⟨gb112, 2, none⟩ = some (.int .i64 0) := (blk_cell BK112.out 2).trans rfl; have hcz65_3 : w64.cell? ⟨gb112, 3, none⟩ = some (.int .i64 0) := (blk_cell BK112.out 3).trans rfl; have hcz65_4 : w64.cell? ⟨gb112, 4, none⟩ = some (.int .i32 0) := (blk_cell BK112.out 4).trans rfl; have hfz65_0 := blk_frozen BK112.out 0; have hfz65_1 := blk_frozen BK112.out 1; have hfz65_2 := blk_frozen BK112.out 2; have hfz65_3 := blk_frozen BK112.out 3; have hfz65_4 := blk_frozen BK112.out 4))
                      refine bodyPost_ret (results_ct rfl _ _ gb112 23 #[.int .i64 0, .int .i64 0, .int .i64 0, .int .i64 0, .int .i32 0] (0, 0) _ rfl (by (with_reducible repeat (first | refine blk_drewN ?_ _ | refine blk_drew ?_ | refine blk_alloc ?_ _)); refine blk_put (cs := #[.int .i64 0, .int .i64 0, .int .i64 0, .int .i64 0, .int .i32 0]) ?_ 4 _ rfl; (with_reducible repeat (first | refine blk_drewN ?_ _ | refine blk_drew ?_ | refine blk_alloc ?_ _)); refine blk_put (cs := #[.int .i64 0, .int .i64 0, .int .i64 0, .int .i64 0, .int .i32 0]) ?_ 3 _ rfl; (with_reducible repeat (first | refine blk_drewN ?_ _ | refine blk_drew ?_ | refine blk_alloc ?_ _)); refine blk_put (cs := #[.int .i64 0, .int .i64 0, .int .i64 0, .int .i64 0, .int .i32 0]) ?_ 2 _ rfl; (with_reducible repeat (first | refine blk_drewN ?_ _ | refine blk_drew ?_ | refine blk_alloc ?_ _)); refine blk_put (cs := #[.int .i64 0, .int .i64 0, .int .i64 0, .int .i64 0, .int .i32 0]) ?_ 1 _ rfl; (with_reducible repeat (first | refine blk_drewN ?_ _ | refine blk_drew ?_ | refine blk_alloc ?_ _)); refine blk_put (cs := #[.int .i64 0, .int .i64 0, .int .i64 0, .int .i64 0, .int .i32 0]) ?_ 0 _ rfl; (with_reducible repeat (first | refine blk_drewN ?_ _ | refine blk_drew ?_ | refine blk_alloc ?_ _)); exact BK112.out) Try.underlying23 rfl (by kernel_rfl)) rfl ?_
                      exact ⟨by first | rfl | (simp [errW_none, errW_some] <;> rfl) | (simp [*, errW_none, errW_some] <;> rfl), by repeat (first | (with_reducible first | exact HB.out | apply below_alloc | apply pw_below_drewN | apply below_drew1 | refine below_set ?_ GE112.out | refine below_set ?_ GE113.out) | exact HB.out)⟩
                  · rw [if_neg c55] at H
                    have c55b0 : (t120 == 0) = false := beq_eq_false_iff_ne.mpr c55
                    have c55b1 : (t120 != 0) = true := bne_iff_ne.mpr c55
                    simp only [Option.some.injEq, Prod.mk.injEq] at H
                    obtain ⟨rfl, rfl, rfl, rfl, rfl, rfl⟩ := H
                    have hnb66 := NB113_112.out
                    have hnc66 := NB112_113.out
                    have hcz67_0 : wc.cell? ⟨gb113, 0, none⟩ = some (.int .i64 (wrap64 (a0 / 16777216))) := (blk_cell BK113.out 0).trans rfl
                    have hcz67_1 : wc.cell? ⟨gb113, 1, none⟩ = some (.int .i64 x114001_2) := (blk_cell BK113.out 1).trans rfl
                    have hcz67_2 : wc.cell? ⟨gb113, 2, none⟩ = some (.int .i64 x114002_10) := (blk_cell BK113.out 2).trans rfl
                    have hcz67_3 : wc.cell? ⟨gb113, 3, none⟩ = some (.int .i64 x114003_14) := (blk_cell BK113.out 3).trans rfl
                    have hcz67_4 : wc.cell? ⟨gb113, 4, none⟩ = some (.int .i32 0) := (blk_cell BK113.out 4).trans rfl
                    have hfz67_0 := blk_frozen BK113.out 0
                    have hfz67_1 := blk_frozen BK113.out 1
                    have hfz67_2 := blk_frozen BK113.out 2
                    have hfz67_3 := blk_frozen BK113.out 3
                    have hfz67_4 := blk_frozen BK113.out 4
                    go_wp2_with (first | ((with_reducible refine gate_callee (f := 7) rfl ?_); refine goesL_ (some 66) rfl rfl Try.func7 (by kernel_rfl) rfl #[.agg #[.int .i64 (wrap64 (a0 / 16777216)), .int .i64 x114001_2, .int .i64 x114002_10, .int .i64 x114003_14, .int .i32 (wrap32 (Go.bits .and .u32 a0 65535))]] rfl (by (try simp only [List.map_toArray, List.map_cons, List.map_nil]); first | done | rfl | (simp only [List.length_drop, List.length_take]; rfl)) ?_; (with_reducible refine (isa_Encode.calls kj14 (wrap64 (a0 / 16777216)) x114001_2 x114002_10 x114003_14 (wrap32 (Go.bits .and .u32 a0 65535)) t119 t120 _ A54.out).mono ?_); rintro e w68 ⟨rfl, hb⟩; refine ⟨_, rfl, ?_⟩; have n0_ := Aside0.mk (blk_below (g := gb112) (o := .cells #[.int .i64 0, .int .i64 0, .int .i64 0, .int .i64 0, .int .i32 0] 23 (0, 0)) (by (with_reducible repeat (first | refine blk_drewN ?_ _ | refine blk_drew ?_ | refine blk_alloc ?_ _)); refine blk_far ?_ NB112_113.out _; (with_reducible repeat (first | refine blk_drewN ?_ _ | refine blk_drew ?_ | refine blk_alloc ?_ _)); exact BK112.out) hb); have n1_ := Aside0.mk (blk_below (g := gb113) (o := .cells #[.int .i64 (wrap64 (a0 / 16777216)), .int .i64 x114001_2, .int .i64 x114002_10, .int .i64 x114003_14, .int .i32 (wrap32 (Go.bits .and .u32 a0 65535))] 23 (0, 0)) (by (with_reducible repeat (first | refine blk_drewN ?_ _ | refine blk_drew ?_ | refine blk_alloc ?_ _)); refine blk_put (cs := #[.int .i64 (wrap64 (a0 / 16777216)), .int .i64 x114001_2, .int .i64 x114002_10, .int .i64 x114003_14, .int .i32 0]) ?_ 4 _ rfl; (with_reducible repeat (first | refine blk_drewN ?_ _ | refine blk_drew ?_ | refine blk_alloc ?_ _)); exact BK113.out) hb); have n2_ := Aside0.mk (below_step (by repeat (first | (with_reducible first | exact HB.out | apply below_alloc | apply pw_below_drewN | apply below_drew1 | refine below_set ?_ GE112.out | refine below_set ?_ GE113.out) | exact HB.out)) hb); clear BK112; clear BK113; clear HB; have BK112 := n0_; have BK113 := n1_; have HB := n2_; clear n0_ n1_ n2_; (try clear hb); (try clear hb2); (try clear hk); (try clear hi); have hcz69_0 : w68.cell? ⟨gb112, 0, none⟩ = some (.int .i64 0) := (blk_cell BK112.out 0).trans rfl; have hcz69_1 : w68.cell? ⟨gb112, 1, none⟩ = some (.int .i64 0) := (blk_cell BK112.out 1).trans rfl; have hcz69_2 : w68.cell? ⟨gb112, 2, none⟩ = some (.int .i64 0) := (blk_cell BK112.out 2).trans rfl; have hcz69_3 : w68.cell? ⟨gb112, 3, none⟩ = some (.int .i64 0) := (blk_cell BK112.out 3).trans rfl; have hcz69_4 : w68.cell? ⟨gb112, 4, none⟩ = some (.int .i32 0) := (blk_cell BK112.out 4).trans rfl; have hfz69_0 := blk_frozen BK112.out 0; have hfz69_1 := blk_frozen BK112.out 1; have hfz69_2 := blk_frozen BK112.out 2; have hfz69_3 := blk_frozen BK112.out 3; have hfz69_4 := blk_frozen BK112.out 4))
                    refine bodyPost_ret (results_ct rfl _ _ gb112 23 #[.int .i64 0, .int .i64 0, .int .i64 0, .int .i64 0, .int .i32 0] (0, 0) _ rfl (by (with_reducible repeat (first | refine blk_drewN ?_ _ | refine blk_drew ?_ | refine blk_alloc ?_ _)); refine blk_put (cs := #[.int .i64 0, .int .i64 0, .int .i64 0, .int .i64 0, .int .i32 0]) ?_ 4 _ rfl; (with_reducible repeat (first | refine blk_drewN ?_ _ | refine blk_drew ?_ | refine blk_alloc ?_ _)); refine blk_put (cs := #[.int .i64 0, .int .i64 0, .int .i64 0, .int .i64 0, .int .i32 0]) ?_ 3 _ rfl; (with_reducible repeat (first | refine blk_drewN ?_ _ | refine blk_drew ?_ | refine blk_alloc ?_ _)); refine blk_put (cs := #[.int .i64 0, .int .i64 0, .int .i64 0, .int .i64 0, .int .i32 0]) ?_ 2 _ rfl; (with_reducible repeat (first | refine blk_drewN ?_ _ | refine blk_drew ?_ | refine blk_alloc ?_ _)); refine blk_put (cs := #[.int .i64 0, .int .i64 0, .int .i64 0, .int .i64 0, .int .i32 0]) ?_ 1 _ rfl; (with_reducible repeat (first | refine blk_drewN ?_ _ | refine blk_drew ?_ | refine blk_alloc ?_ _)); refine blk_put (cs := #[.int .i64 0, .int .i64 0, .int .i64 0, .int .i64 0, .int .i32 0]) ?_ 0 _ rfl; (with_reducible repeat (first | refine blk_drewN ?_ _ | refine blk_drew ?_ | refine blk_alloc ?_ _)); exact BK112.out) Try.underlying23 rfl (by kernel_rfl)) rfl ?_
                    exact ⟨by first | rfl | (simp [errW_none, errW_some] <;> rfl) | (simp [*, errW_none, errW_some] <;> rfl), by repeat (first | (with_reducible first | exact HB.out | apply below_alloc | apply pw_below_drewN | apply below_drew1 | refine below_set ?_ GE112.out | refine below_set ?_ GE113.out) | exact HB.out)⟩
              · rw [if_neg c19] at H
                have c19b0 : ((Go.bits .and .i64 t114 8) == 0) = false := beq_eq_false_iff_ne.mpr c19
                have c19b1 : ((Go.bits .and .i64 t114 8) != 0) = true := bne_iff_ne.mpr c19
                replace H := Option.bind_eq_some_iff.mp H
                obtain ⟨⟨t121, t122⟩, A700, H⟩ := H
                replace H : (if t122 = 0 then (if t121 = a0 then (some ((wrap64 (a0 / 16777216)), x114001_2, x114002_10, x114003_14, wrap32 (IntKind.i16.wrap (a0)), 0)) else (some (0, 0, 0, 0, 0, 1))) else (some (0, 0, 0, 0, 0, 1))) = some (r1, r2, r3, r4, r5, r6) := H
                have A70 := Aside0.mk A700
                clear A700
                by_cases c71 : t122 = 0
                · rw [if_pos c71] at H
                  have c71b0 : (t122 == 0) = true := beq_iff_eq.mpr c71
                  have c71b1 : (t122 != 0) = false := bne_eq_false_iff_eq.mpr c71
                  clear c71
                  by_cases c72 : t121 = a0
                  · rw [if_pos c72] at H
                    have c72b0 : (t121 == a0) = true := beq_iff_eq.mpr c72
                    have c72b1 : (t121 != a0) = false := bne_eq_false_iff_eq.mpr c72
                    clear c72
                    simp only [Option.some.injEq, Prod.mk.injEq] at H
                    obtain ⟨rfl, rfl, rfl, rfl, rfl, rfl⟩ := H
                    have hnb73 := NB113_112.out
                    have hnc73 := NB112_113.out
                    have hcz74_0 : wc.cell? ⟨gb113, 0, none⟩ = some (.int .i64 (wrap64 (a0 / 16777216))) := (blk_cell BK113.out 0).trans rfl
                    have hcz74_1 : wc.cell? ⟨gb113, 1, none⟩ = some (.int .i64 x114001_2) := (blk_cell BK113.out 1).trans rfl
                    have hcz74_2 : wc.cell? ⟨gb113, 2, none⟩ = some (.int .i64 x114002_10) := (blk_cell BK113.out 2).trans rfl
                    have hcz74_3 : wc.cell? ⟨gb113, 3, none⟩ = some (.int .i64 x114003_14) := (blk_cell BK113.out 3).trans rfl
                    have hcz74_4 : wc.cell? ⟨gb113, 4, none⟩ = some (.int .i32 0) := (blk_cell BK113.out 4).trans rfl
                    have hfz74_0 := blk_frozen BK113.out 0
                    have hfz74_1 := blk_frozen BK113.out 1
                    have hfz74_2 := blk_frozen BK113.out 2
                    have hfz74_3 := blk_frozen BK113.out 3
                    have hfz74_4 := blk_frozen BK113.out 4
                    go_wp2_with (first | ((with_reducible refine gate_callee (f := 7) rfl ?_); refine goesL_ (some 66) rfl rfl Try.func7 (by kernel_rfl) rfl #[.agg #[.int .i64 (wrap64 (a0 / 16777216)), .int .i64 x114001_2, .int .i64 x114002_10, .int .i64 x114003_14, .int .i32 (wrap32 (IntKind.i16.wrap (a0)))]] rfl (by (try simp only [List.map_toArray, List.map_cons, List.map_nil]); first | done | rfl | (simp only [List.length_drop, List.length_take]; rfl)) ?_; (with_reducible refine (isa_Encode.calls kj14 (wrap64 (a0 / 16777216)) x114001_2 x114002_10 x114003_14 (wrap32 (IntKind.i16.wrap (a0))) t121 t122 _ A70.out).mono ?_); rintro e w75 ⟨rfl, hb⟩; refine ⟨_, rfl, ?_⟩; have n0_ := Aside0.mk (blk_below (g := gb112) (o := .cells #[.int .i64 0, .int .i64 0, .int .i64 0, .int .i64 0, .int .i32 0] 23 (0, 0)) (by (with_reducible repeat (first | refine blk_drewN ?_ _ | refine blk_drew ?_ | refine blk_alloc ?_ _)); refine blk_far ?_ NB112_113.out _; (with_reducible repeat (first | refine blk_drewN ?_ _ | refine blk_drew ?_ | refine blk_alloc ?_ _)); exact BK112.out) hb); have n1_ := Aside0.mk (blk_below (g := gb113) (o := .cells #[.int .i64 (wrap64 (a0 / 16777216)), .int .i64 x114001_2, .int .i64 x114002_10, .int .i64 x114003_14, .int .i32 (wrap32 (IntKind.i16.wrap (a0)))] 23 (0, 0)) (by (with_reducible repeat (first | refine blk_drewN ?_ _ | refine blk_drew ?_ | refine blk_alloc ?_ _)); refine blk_put (cs := #[.int .i64 (wrap64 (a0 / 16777216)), .int .i64 x114001_2, .int .i64 x114002_10, .int .i64 x114003_14, .int .i32 0]) ?_ 4 _ rfl; (with_reducible repeat (first | refine blk_drewN ?_ _ | refine blk_drew ?_ | refine blk_alloc ?_ _)); exact BK113.out) hb); have n2_ := Aside0.mk (below_step (by repeat (first | (with_reducible first | exact HB.out | apply below_alloc | apply pw_below_drewN | apply below_drew1 | refine below_set ?_ GE112.out | refine below_set ?_ GE113.out) | exact HB.out)) hb); clear BK112; clear BK113; clear HB; have BK112 := n0_; have BK113 := n1_; have HB := n2_; clear n0_ n1_ n2_; (try clear hb); (try clear hb2); (try clear hk); (try clear hi); have hcz76_0 : w75.cell? ⟨gb113, 0, none⟩ = some (.int .i64 (wrap64 (a0 / 16777216))) := (blk_cell BK113.out 0).trans rfl; have hcz76_1 : w75.cell? ⟨gb113, 1, none⟩ = some (.int .i64 x114001_2) := (blk_cell BK113.out 1).trans rfl; have hcz76_2 : w75.cell? ⟨gb113, 2, none⟩ = some (.int .i64 x114002_10) := (blk_cell BK113.out 2).trans rfl; have hcz76_3 : w75.cell? ⟨gb113, 3, none⟩ = some (.int .i64 x114003_14) := (blk_cell BK113.out 3).trans rfl; have hcz76_4 : w75.cell? ⟨gb113, 4, none⟩ = some (.int .i32 (wrap32 (IntKind.i16.wrap (a0)))) := (blk_cell BK113.out 4).trans rfl; have hfz76_0 := blk_frozen BK113.out 0; have hfz76_1 := blk_frozen BK113.out 1; have hfz76_2 := blk_frozen BK113.out 2; have hfz76_3 := blk_frozen BK113.out 3; have hfz76_4 := blk_frozen BK113.out 4; have hcz77_0 : w75.cell? ⟨gb112, 0, none⟩ = some (.int .i64 0) := (blk_cell BK112.out 0).trans rfl; have hcz77_1 : w75.cell? ⟨gb112, 1, none⟩ = some (.int .i64 0) := (blk_cell BK112.out 1).trans rfl; have hcz77_2 : w75.cell? ⟨gb112, 2, none⟩ = some (.int .i64 0) := (blk_cell BK112.out 2).trans rfl; have hcz77_3 : w75.cell? ⟨gb112, 3, none⟩ = some (.int .i64 0) := (blk_cell BK112.out 3).trans rfl; have hcz77_4 : w75.cell? ⟨gb112, 4, none⟩ = some (.int .i32 0) := (blk_cell BK112.out 4).trans rfl; have hfz77_0 := blk_frozen BK112.out 0; have hfz77_1 := blk_frozen BK112.out 1; have hfz77_2 := blk_frozen BK112.out 2; have hfz77_3 := blk_frozen BK112.out 3; have hfz77_4 := blk_frozen BK112.out 4))
                    refine bodyPost_ret (results_ct rfl _ _ gb112 23 #[.int .i64 (wrap64 (a0 / 16777216)), .int .i64 x114001_2, .int .i64 x114002_10, .int .i64 x114003_14, .int .i32 (wrap32 (IntKind.i16.wrap (a0)))] (0, 0) _ rfl (by (with_reducible repeat (first | refine blk_drewN ?_ _ | refine blk_drew ?_ | refine blk_alloc ?_ _)); refine blk_put (cs := #[.int .i64 (wrap64 (a0 / 16777216)), .int .i64 x114001_2, .int .i64 x114002_10, .int .i64 x114003_14, .int .i32 0]) ?_ 4 _ rfl; (with_reducible repeat (first | refine blk_drewN ?_ _ | refine blk_drew ?_ | refine blk_alloc ?_ _)); refine blk_put (cs := #[.int .i64 (wrap64 (a0 / 16777216)), .int .i64 x114001_2, .int .i64 x114002_10, .int .i64 0, .int .i32 0]) ?_ 3 _ rfl; (with_reducible repeat (first | refine blk_drewN ?_ _ | refine blk_drew ?_ | refine blk_alloc ?_ _)); refine blk_put (cs := #[.int .i64 (wrap64 (a0 / 16777216)), .int .i64 x114001_2, .int .i64 0, .int .i64 0, .int .i32 0]) ?_ 2 _ rfl; (with_reducible repeat (first | refine blk_drewN ?_ _ | refine blk_drew ?_ | refine blk_alloc ?_ _)); refine blk_put (cs := #[.int .i64 (wrap64 (a0 / 16777216)), .int .i64 0, .int .i64 0, .int .i64 0, .int .i32 0]) ?_ 1 _ rfl; (with_reducible repeat (first | refine blk_drewN ?_ _ | refine blk_drew ?_ | refine blk_alloc ?_ _)); refine blk_put (cs := #[.int .i64 0, .int .i64 0, .int .i64 0, .int .i64 0, .int .i32 0]) ?_ 0 _ rfl; (with_reducible repeat (first | refine blk_drewN ?_ _ | refine blk_drew ?_ | refine blk_alloc ?_ _)); exact BK112.out) Try.underlying23 rfl (by kernel_rfl)) rfl ?_
                    exact ⟨by first | rfl | (simp [errW_none, errW_some] <;> rfl) | (simp [*, errW_none, errW_some] <;> rfl), by repeat (first | (with_reducible first | exact HB.out | apply below_alloc | apply pw_below_drewN | apply below_drew1 | refine below_set ?_ GE112.out | refine below_set ?_ GE113.out) | exact HB.out)⟩
                  · rw [if_neg c72] at H
                    have c72b0 : (t121 == a0) = false := beq_eq_false_iff_ne.mpr c72
                    have c72b1 : (t121 != a0) = true := bne_iff_ne.mpr c72
                    simp only [Option.some.injEq, Prod.mk.injEq] at H
                    obtain ⟨rfl, rfl, rfl, rfl, rfl, rfl⟩ := H
                    have hnb78 := NB113_112.out
                    have hnc78 := NB112_113.out
                    have hcz79_0 : wc.cell? ⟨gb113, 0, none⟩ = some (.int .i64 (wrap64 (a0 / 16777216))) := (blk_cell BK113.out 0).trans rfl
                    have hcz79_1 : wc.cell? ⟨gb113, 1, none⟩ = some (.int .i64 x114001_2) := (blk_cell BK113.out 1).trans rfl
                    have hcz79_2 : wc.cell? ⟨gb113, 2, none⟩ = some (.int .i64 x114002_10) := (blk_cell BK113.out 2).trans rfl
                    have hcz79_3 : wc.cell? ⟨gb113, 3, none⟩ = some (.int .i64 x114003_14) := (blk_cell BK113.out 3).trans rfl
                    have hcz79_4 : wc.cell? ⟨gb113, 4, none⟩ = some (.int .i32 0) := (blk_cell BK113.out 4).trans rfl
                    have hfz79_0 := blk_frozen BK113.out 0
                    have hfz79_1 := blk_frozen BK113.out 1
                    have hfz79_2 := blk_frozen BK113.out 2
                    have hfz79_3 := blk_frozen BK113.out 3
                    have hfz79_4 := blk_frozen BK113.out 4
                    go_wp2_with (first | ((with_reducible refine gate_callee (f := 7) rfl ?_); refine goesL_ (some 66) rfl rfl Try.func7 (by kernel_rfl) rfl #[.agg #[.int .i64 (wrap64 (a0 / 16777216)), .int .i64 x114001_2, .int .i64 x114002_10, .int .i64 x114003_14, .int .i32 (wrap32 (IntKind.i16.wrap (a0)))]] rfl (by (try simp only [List.map_toArray, List.map_cons, List.map_nil]); first | done | rfl | (simp only [List.length_drop, List.length_take]; rfl)) ?_; (with_reducible refine (isa_Encode.calls kj14 (wrap64 (a0 / 16777216)) x114001_2 x114002_10 x114003_14 (wrap32 (IntKind.i16.wrap (a0))) t121 t122 _ A70.out).mono ?_); rintro e w80 ⟨rfl, hb⟩; refine ⟨_, rfl, ?_⟩; have n0_ := Aside0.mk (blk_below (g := gb112) (o := .cells #[.int .i64 0, .int .i64 0, .int .i64 0, .int .i64 0, .int .i32 0] 23 (0, 0)) (by (with_reducible repeat (first | refine blk_drewN ?_ _ | refine blk_drew ?_ | refine blk_alloc ?_ _)); refine blk_far ?_ NB112_113.out _; (with_reducible repeat (first | refine blk_drewN ?_ _ | refine blk_drew ?_ | refine blk_alloc ?_ _)); exact BK112.out) hb); have n1_ := Aside0.mk (blk_below (g := gb113) (o := .cells #[.int .i64 (wrap64 (a0 / 16777216)), .int .i64 x114001_2, .int .i64 x114002_10, .int .i64 x114003_14, .int .i32 (wrap32 (IntKind.i16.wrap (a0)))] 23 (0, 0)) (by (with_reducible repeat (first | refine blk_drewN ?_ _ | refine blk_drew ?_ | refine blk_alloc ?_ _)); refine blk_put (cs := #[.int .i64 (wrap64 (a0 / 16777216)), .int .i64 x114001_2, .int .i64 x114002_10, .int .i64 x114003_14, .int .i32 0]) ?_ 4 _ rfl; (with_reducible repeat (first | refine blk_drewN ?_ _ | refine blk_drew ?_ | refine blk_alloc ?_ _)); exact BK113.out) hb); have n2_ := Aside0.mk (below_step (by repeat (first | (with_reducible first | exact HB.out | apply below_alloc | apply pw_below_drewN | apply below_drew1 | refine below_set ?_ GE112.out | refine below_set ?_ GE113.out) | exact HB.out)) hb); clear BK112; clear BK113; clear HB; have BK112 := n0_; have BK113 := n1_; have HB := n2_; clear n0_ n1_ n2_; (try clear hb); (try clear hb2); (try clear hk); (try clear hi); have hcz81_0 : w80.cell? ⟨gb112, 0, none⟩ = some (.int .i64 0) := (blk_cell BK112.out 0).trans rfl; have hcz81_1 : w80.cell? ⟨gb112, 1, none⟩ = some (.int .i64 0) := (blk_cell BK112.out 1).trans rfl; have hcz81_2 : w80.cell? ⟨gb112, 2, none⟩ = some (.int .i64 0) := (blk_cell BK112.out 2).trans rfl; have hcz81_3 : w80.cell? ⟨gb112, 3, none⟩ = some (.int .i64 0) := (blk_cell BK112.out 3).trans rfl; have hcz81_4 : w80.cell? ⟨gb112, 4, none⟩ = some (.int .i32 0) := (blk_cell BK112.out 4).trans rfl; have hfz81_0 := blk_frozen BK112.out 0; have hfz81_1 := blk_frozen BK112.out 1; have hfz81_2 := blk_frozen BK112.out 2; have hfz81_3 := blk_frozen BK112.out 3; have hfz81_4 := blk_frozen BK112.out 4))
                    refine bodyPost_ret (results_ct rfl _ _ gb112 23 #[.int .i64 0, .int .i64 0, .int .i64 0, .int .i64 0, .int .i32 0] (0, 0) _ rfl (by (with_reducible repeat (first | refine blk_drewN ?_ _ | refine blk_drew ?_ | refine blk_alloc ?_ _)); refine blk_put (cs := #[.int .i64 0, .int .i64 0, .int .i64 0, .int .i64 0, .int .i32 0]) ?_ 4 _ rfl; (with_reducible repeat (first | refine blk_drewN ?_ _ | refine blk_drew ?_ | refine blk_alloc ?_ _)); refine blk_put (cs := #[.int .i64 0, .int .i64 0, .int .i64 0, .int .i64 0, .int .i32 0]) ?_ 3 _ rfl; (with_reducible repeat (first | refine blk_drewN ?_ _ | refine blk_drew ?_ | refine blk_alloc ?_ _)); refine blk_put (cs := #[.int .i64 0, .int .i64 0, .int .i64 0, .int .i64 0, .int .i32 0]) ?_ 2 _ rfl; (with_reducible repeat (first | refine blk_drewN ?_ _ | refine blk_drew ?_ | refine blk_alloc ?_ _)); refine blk_put (cs := #[.int .i64 0, .int .i64 0, .int .i64 0, .int .i64 0, .int .i32 0]) ?_ 1 _ rfl; (with_reducible repeat (first | refine blk_drewN ?_ _ | refine blk_drew ?_ | refine blk_alloc ?_ _)); refine blk_put (cs := #[.int .i64 0, .int .i64 0, .int .i64 0, .int .i64 0, .int .i32 0]) ?_ 0 _ rfl; (with_reducible repeat (first | refine blk_drewN ?_ _ | refine blk_drew ?_ | refine blk_alloc ?_ _)); exact BK112.out) Try.underlying23 rfl (by kernel_rfl)) rfl ?_
                    exact ⟨by first | rfl | (simp [errW_none, errW_some] <;> rfl) | (simp [*, errW_none, errW_some] <;> rfl), by repeat (first | (with_reducible first | exact HB.out | apply below_alloc | apply pw_below_drewN | apply below_drew1 | refine below_set ?_ GE112.out | refine below_set ?_ GE113.out) | exact HB.out)⟩
                · rw [if_neg c71] at H
                  have c71b0 : (t122 == 0) = false := beq_eq_false_iff_ne.mpr c71
                  have c71b1 : (t122 != 0) = true := bne_iff_ne.mpr c71
                  simp only [Option.some.injEq, Prod.mk.injEq] at H
                  obtain ⟨rfl, rfl, rfl, rfl, rfl, rfl⟩ := H
                  have hnb82 := NB113_112.out
                  have hnc82 := NB112_113.out
                  have hcz83_0 : wc.cell? ⟨gb113, 0, none⟩ = some (.int .i64 (wrap64 (a0 / 16777216))) := (blk_cell BK113.out 0).trans rfl
                  have hcz83_1 : wc.cell? ⟨gb113, 1, none⟩ = some (.int .i64 x114001_2) := (blk_cell BK113.out 1).trans rfl
                  have hcz83_2 : wc.cell? ⟨gb113, 2, none⟩ = some (.int .i64 x114002_10) := (blk_cell BK113.out 2).trans rfl
                  have hcz83_3 : wc.cell? ⟨gb113, 3, none⟩ = some (.int .i64 x114003_14) := (blk_cell BK113.out 3).trans rfl
                  have hcz83_4 : wc.cell? ⟨gb113, 4, none⟩ = some (.int .i32 0) := (blk_cell BK113.out 4).trans rfl
                  have hfz83_0 := blk_frozen BK113.out 0
                  have hfz83_1 := blk_frozen BK113.out 1
                  have hfz83_2 := blk_frozen BK113.out 2
                  have hfz83_3 := blk_frozen BK113.out 3
                  have hfz83_4 := blk_frozen BK113.out 4
                  go_wp2_with (first | ((with_reducible refine gate_callee (f := 7) rfl ?_); refine goesL_ (some 66) rfl rfl Try.func7 (by kernel_rfl) rfl #[.agg #[.int .i64 (wrap64 (a0 / 16777216)), .int .i64 x114001_2, .int .i64 x114002_10, .int .i64 x114003_14, .int .i32 (wrap32 (IntKind.i16.wrap (a0)))]] rfl (by (try simp only [List.map_toArray, List.map_cons, List.map_nil]); first | done | rfl | (simp only [List.length_drop, List.length_take]; rfl)) ?_; (with_reducible refine (isa_Encode.calls kj14 (wrap64 (a0 / 16777216)) x114001_2 x114002_10 x114003_14 (wrap32 (IntKind.i16.wrap (a0))) t121 t122 _ A70.out).mono ?_); rintro e w84 ⟨rfl, hb⟩; refine ⟨_, rfl, ?_⟩; have n0_ := Aside0.mk (blk_below (g := gb112) (o := .cells #[.int .i64 0, .int .i64 0, .int .i64 0, .int .i64 0, .int .i32 0] 23 (0, 0)) (by (with_reducible repeat (first | refine blk_drewN ?_ _ | refine blk_drew ?_ | refine blk_alloc ?_ _)); refine blk_far ?_ NB112_113.out _; (with_reducible repeat (first | refine blk_drewN ?_ _ | refine blk_drew ?_ | refine blk_alloc ?_ _)); exact BK112.out) hb); have n1_ := Aside0.mk (blk_below (g := gb113) (o := .cells #[.int .i64 (wrap64 (a0 / 16777216)), .int .i64 x114001_2, .int .i64 x114002_10, .int .i64 x114003_14, .int .i32 (wrap32 (IntKind.i16.wrap (a0)))] 23 (0, 0)) (by (with_reducible repeat (first | refine blk_drewN ?_ _ | refine blk_drew ?_ | refine blk_alloc ?_ _)); refine blk_put (cs := #[.int .i64 (wrap64 (a0 / 16777216)), .int .i64 x114001_2, .int .i64 x114002_10, .int .i64 x114003_14, .int .i32 0]) ?_ 4 _ rfl; (with_reducible repeat (first | refine blk_drewN ?_ _ | refine blk_drew ?_ | refine blk_alloc ?_ _)); exact BK113.out) hb); have n2_ := Aside0.mk (below_step (by repeat (first | (with_reducible first | exact HB.out | apply below_alloc | apply pw_below_drewN | apply below_drew1 | refine below_set ?_ GE112.out | refine below_set ?_ GE113.out) | exact HB.out)) hb); clear BK112; clear BK113; clear HB; have BK112 := n0_; have BK113 := n1_; have HB := n2_; clear n0_ n1_ n2_; (try clear hb); (try clear hb2); (try clear hk); (try clear hi); have hcz85_0 : w84.cell? ⟨gb112, 0, none⟩ = some (.int .i64 0) := (blk_cell BK112.out 0).trans rfl; have hcz85_1 : w84.cell? ⟨gb112, 1, none⟩ = some (.int .i64 0) := (blk_cell BK112.out 1).trans rfl; have hcz85_2 : w84.cell? ⟨gb112, 2, none⟩ = some (.int .i64 0) := (blk_cell BK112.out 2).trans rfl; have hcz85_3 : w84.cell? ⟨gb112, 3, none⟩ = some (.int .i64 0) := (blk_cell BK112.out 3).trans rfl; have hcz85_4 : w84.cell? ⟨gb112, 4, none⟩ = some (.int .i32 0) := (blk_cell BK112.out 4).trans rfl; have hfz85_0 := blk_frozen BK112.out 0; have hfz85_1 := blk_frozen BK112.out 1; have hfz85_2 := blk_frozen BK112.out 2; have hfz85_3 := blk_frozen BK112.out 3; have hfz85_4 := blk_frozen BK112.out 4))
                  refine bodyPost_ret (results_ct rfl _ _ gb112 23 #[.int .i64 0, .int .i64 0, .int .i64 0, .int .i64 0, .int .i32 0] (0, 0) _ rfl (by (with_reducible repeat (first | refine blk_drewN ?_ _ | refine blk_drew ?_ | refine blk_alloc ?_ _)); refine blk_put (cs := #[.int .i64 0, .int .i64 0, .int .i64 0, .int .i64 0, .int .i32 0]) ?_ 4 _ rfl; (with_reducible repeat (first | refine blk_drewN ?_ _ | refine blk_drew ?_ | refine blk_alloc ?_ _)); refine blk_put (cs := #[.int .i64 0, .int .i64 0, .int .i64 0, .int .i64 0, .int .i32 0]) ?_ 3 _ rfl; (with_reducible repeat (first | refine blk_drewN ?_ _ | refine blk_drew ?_ | refine blk_alloc ?_ _)); refine blk_put (cs := #[.int .i64 0, .int .i64 0, .int .i64 0, .int .i64 0, .int .i32 0]) ?_ 2 _ rfl; (with_reducible repeat (first | refine blk_drewN ?_ _ | refine blk_drew ?_ | refine blk_alloc ?_ _)); refine blk_put (cs := #[.int .i64 0, .int .i64 0, .int .i64 0, .int .i64 0, .int .i32 0]) ?_ 1 _ rfl; (with_reducible repeat (first | refine blk_drewN ?_ _ | refine blk_drew ?_ | refine blk_alloc ?_ _)); refine blk_put (cs := #[.int .i64 0, .int .i64 0, .int .i64 0, .int .i64 0, .int .i32 0]) ?_ 0 _ rfl; (with_reducible repeat (first | refine blk_drewN ?_ _ | refine blk_drew ?_ | refine blk_alloc ?_ _)); exact BK112.out) Try.underlying23 rfl (by kernel_rfl)) rfl ?_
                  exact ⟨by first | rfl | (simp [errW_none, errW_some] <;> rfl) | (simp [*, errW_none, errW_some] <;> rfl), by repeat (first | (with_reducible first | exact HB.out | apply below_alloc | apply pw_below_drewN | apply below_drew1 | refine below_set ?_ GE112.out | refine below_set ?_ GE113.out) | exact HB.out)⟩

end Go.Proofs.Ytiogfhmmepepdaa.PIsaDecodes
