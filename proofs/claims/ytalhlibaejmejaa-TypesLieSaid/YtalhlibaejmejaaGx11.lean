-- laid by given.sh
import Derived.Test.YtalhlibaejmejaaGx0
import Derived.Test.YtalhlibaejmejaaGx5
import Derived.Test.YtalhlibaejmejaaGx8
import Derived.Test.YtalhlibaejmejaaGx9
import Derived.Test.YtalhlibaejmejaaGx10
namespace Go.Proofs.Ytalhlibaejmejaa.G
open Go.RowKit Go.Proofs.YtalhlibaejmejaaW.PrintWords Go.Proofs.YtalhlibaejmejaaW.PrintLast Go.Proofs.YtalhlibaejmejaaW.PrintMore
attribute [local go_sem] max2_int min2_int max_two min_two max_three min_three max_four min_four   -- for this text's walks alone
set_option linter.unusedVariables false
set_option linter.unusedSimpArgs false

/-! ### types_Layout: function 8 -/
mutual
def types_Layout.l0 : Nat → List (S35) → Int → Int → List (S35) → Int → Int → ByteArray → List (S35) → Int → Option (ByteArray × (List (S35)) × Int × Int)
  | 0, _, _, _, _, _, _, _, _, _ => none
  | k + 1, x1, x7, x8, x20, x21, x22, x108000, x108001, x108002 => if x22 < x21 then (if 0 ≤ x22 then (if x22 < (x20.length : Int) then ((types_Size.f k ((rd_T35 x20 x22).f1.f0) ((rd_T35 x20 x22).f1.f1) ((rd_T35 x20 x22).f1.f2) ((rd_T35 x20 x22).f1.f3) ([] : List (S24))).bind fun bt111 => (if bt111.2 = 0 then ((types_Find.f x108000 x108001 x108002 ((rd_T35 x20 x22).f0)).bind fun t113 => (types_Layout.j1 k x1 x7 x8 bt111.1 x20 x21 x22 (decide (t113 ≥ 0)) x108000 x108001 x108002 ((rd_T35 x20 x22).f0) ((rd_T35 x20 x22).f1.f0) ((rd_T35 x20 x22).f1.f1) ((rd_T35 x20 x22).f1.f2) ((rd_T35 x20 x22).f1.f3) ((rd_T35 x20 x22).f2))) else (types_Layout.j1 k x1 x7 x8 bt111.1 x20 x21 x22 true x108000 x108001 x108002 ((rd_T35 x20 x22).f0) ((rd_T35 x20 x22).f1.f0) ((rd_T35 x20 x22).f1.f1) ((rd_T35 x20 x22).f1.f2) ((rd_T35 x20 x22).f1.f3) ((rd_T35 x20 x22).f2)))) else (none)) else (none)) else (if (x1.length : Int) = 0 then (some ((⟨#[]⟩ : ByteArray), ([] : List (S35)), 0, 1)) else ((types_up.f x7 x8).bind fun t108 => (some (x108000, x108001, t108, 0))))
def types_Layout.j1 : Nat → List (S35) → Int → Int → Int → List (S35) → Int → Int → Bool → ByteArray → List (S35) → Int → ByteArray → Int → Int → Int → Int → Int → Option (ByteArray × (List (S35)) × Int × Int)
  | 0, _, _, _, _, _, _, _, _, _, _, _, _, _, _, _, _, _ => none
  | k + 1, x1, x7, x8, x11, x20, x21, x22, x40, x108000, x108001, x108002, x111000, x111001, x111002, x111003, x111004, x111005 => if x40 = true then (some ((⟨#[]⟩ : ByteArray), ([] : List (S35)), 0, 1)) else ((types_each.f x111001).bind fun t114 => (if x111001 = 4 then ((types_each.f x111002).bind fun t115 => ((types_up.f x7 t115).bind fun t116 => (if x108001.length < 2513169434916 then (types_Layout.l0 k x1 (wrap64 (t116 + x11)) (mx x8 t115) x20 x21 (wrap64 (x22 + 1)) x108000 (x108001 ++ [(⟨x111000, (⟨x111001, x111002, x111003, x111004⟩ : S33), t116⟩ : S35)]) x108002) else (none)))) else ((types_up.f x7 t114).bind fun t120 => (if x108001.length < 2513169434916 then (types_Layout.l0 k x1 (wrap64 (t120 + x11)) (mx x8 t114) x20 x21 (wrap64 (x22 + 1)) x108000 (x108001 ++ [(⟨x111000, (⟨x111001, x111002, x111003, x111004⟩ : S33), t120⟩ : S35)]) x108002) else (none)))))
end
def types_Layout.f (k : Nat) (a0 : ByteArray) (l1 : List (S35)) : Option (ByteArray × (List (S35)) × Int × Int) := if (l1.length : Int) > 32 then (some ((⟨#[]⟩ : ByteArray), ([] : List (S35)), 0, 3)) else (types_Layout.l0 k l1 0 1 l1 (l1.length : Int) 0 a0 ([] : List (S35)) 0)
theorem types_Layout.mono_l : ∀ k, (∀ y0 y1 y2 y3 y4 y5 y6 y7 y8, LeO (types_Layout.l0 k y0 y1 y2 y3 y4 y5 y6 y7 y8) (types_Layout.l0 (k + 1) y0 y1 y2 y3 y4 y5 y6 y7 y8)) ∧ (∀ y0 y1 y2 y3 y4 y5 y6 y7 y8 y9 y10 y11 y12 y13 y14 y15 y16, LeO (types_Layout.j1 k y0 y1 y2 y3 y4 y5 y6 y7 y8 y9 y10 y11 y12 y13 y14 y15 y16) (types_Layout.j1 (k + 1) y0 y1 y2 y3 y4 y5 y6 y7 y8 y9 y10 y11 y12 y13 y14 y15 y16))
  | 0 => ⟨fun _ _ _ _ _ _ _ _ _ r h => by simp [types_Layout.l0] at h, fun _ _ _ _ _ _ _ _ _ _ _ _ _ _ _ _ _ r h => by simp [types_Layout.j1] at h⟩
  | k + 1 => by
    obtain ⟨ih0, ih1⟩ := types_Layout.mono_l k
    refine ⟨?_, ?_⟩
    · intro y0 y1 y2 y3 y4 y5 y6 y7 y8
      unfold types_Layout.l0
      repeat' first
      | (with_reducible exact ih0 _ _ _ _ _ _ _ _ _)
      | (with_reducible exact ih1 _ _ _ _ _ _ _ _ _ _ _ _ _ _ _ _ _)
      | (with_reducible exact types_Size.mono _ _ _ _ _ _)
      | (with_reducible exact LeO.refl _)
      | (with_reducible exact LeO.none _)
      | (with_reducible refine LeO.ite ?_ ?_)
      | (with_reducible refine LeO.bind ?_ (fun _ => ?_))
      | exact ih0 _ _ _ _ _ _ _ _ _
      | exact ih1 _ _ _ _ _ _ _ _ _ _ _ _ _ _ _ _ _
      | exact types_Size.mono _ _ _ _ _ _
      | exact LeO.none _
      | refine LeO.ite ?_ ?_
      | refine LeO.bind ?_ (fun _ => ?_)
    · intro y0 y1 y2 y3 y4 y5 y6 y7 y8 y9 y10 y11 y12 y13 y14 y15 y16
      unfold types_Layout.j1
      repeat' first
      | (with_reducible exact ih0 _ _ _ _ _ _ _ _ _)
      | (with_reducible exact ih1 _ _ _ _ _ _ _ _ _ _ _ _ _ _ _ _ _)
      | (with_reducible exact types_Size.mono _ _ _ _ _ _)
      | (with_reducible exact LeO.refl _)
      | (with_reducible exact LeO.none _)
      | (with_reducible refine LeO.ite ?_ ?_)
      | (with_reducible refine LeO.bind ?_ (fun _ => ?_))
      | exact ih0 _ _ _ _ _ _ _ _ _
      | exact ih1 _ _ _ _ _ _ _ _ _ _ _ _ _ _ _ _ _
      | exact types_Size.mono _ _ _ _ _ _
      | exact LeO.none _
      | refine LeO.ite ?_ ?_
      | refine LeO.bind ?_ (fun _ => ?_)
theorem types_Layout.mono : ∀ a0 a1 k, LeO (types_Layout.f k a0 a1) (types_Layout.f (k + 1) a0 a1) := by
  intro a0 a1 k
  obtain ⟨ih0, ih1⟩ := types_Layout.mono_l k
  unfold types_Layout.f
  repeat' first
      | (with_reducible exact ih0 _ _ _ _ _ _ _ _ _)
      | (with_reducible exact ih1 _ _ _ _ _ _ _ _ _ _ _ _ _ _ _ _ _)
      | (with_reducible exact types_Size.mono _ _ _ _ _ _)
      | (with_reducible exact LeO.refl _)
      | (with_reducible exact LeO.none _)
      | (with_reducible refine LeO.ite ?_ ?_)
      | (with_reducible refine LeO.bind ?_ (fun _ => ?_))
      | exact ih0 _ _ _ _ _ _ _ _ _
      | exact ih1 _ _ _ _ _ _ _ _ _ _ _ _ _ _ _ _ _
      | exact types_Size.mono _ _ _ _ _ _
      | exact LeO.none _
      | refine LeO.ite ?_ ?_
      | refine LeO.bind ?_ (fun _ => ?_)
set_option maxHeartbeats 8000000 in
set_option maxRecDepth 100000 in
theorem types_Layout.calls (k : Nat) (a0 : ByteArray) (A1 : Option Addr) (c1 : Nat) (l1 : List (S35)) (r1 : ByteArray) (r2 : List (S35)) (r3 : Int) (r4 : Int) (w : World) (hr1 : Kd.C k35 w A1 l1.length l1) (hc1 : l1.length ≤ c1) (h : types_Layout.f k a0 l1 = some (r1, r2, r3, r4)) :
    Calls Try.prog 8 #[.string a0, .slice A1 l1.length c1] w fun e w' => ∃ v1_ : Value, e = .returned (.tuple #[.agg #[.string r1, v1_, .int .i64 r3], .int .i64 r4]) ∧ Kd.R k35 35 w' w.heap.size (fun _ => True) v1_ r2 ∧ Below w.heap.size w w' := by
  have hu24 := Try.underlying24
  have hu35 := Try.underlying35
  have hu33 := Try.underlying33
  have HR1 := Aside0.mk hr1
  have HC1 := Aside0.mk hc1
  clear hr1 hc1
  have HB := Aside0.mk (Below.refl w.heap.size w)
  have H : (if (l1.length : Int) > 32 then (some ((⟨#[]⟩ : ByteArray), ([] : List (S35)), 0, 3)) else (types_Layout.l0 k l1 0 1 l1 (l1.length : Int) 0 a0 ([] : List (S35)) 0)) = some (r1, r2, r3, r4) := h
  clear h
  by_cases c3 : (l1.length : Int) > 32
  · rw [if_pos c3] at H
    have c3b0 : decide (32 < (l1.length : Int)) = true := decide_eq_true c3
    have c3b1 : decide (32 < l1.length) = true := decide_eq_true (by omega)
    clear c3
    simp only [Option.some.injEq, Prod.mk.injEq] at H
    obtain ⟨rfl, rfl, rfl, rfl⟩ := H
    go_enter Try.func8, Try.ntmps8
    go_wp2_with (first | ((with_reducible refine gate_dst (N := 4) rfl ?_); refine box_event ?hg (N := 4) ?hd (cs := #[.string (⟨#[]⟩ : ByteArray), .slice none 0 0, .int .i64 0]) (t := 24) ?hr ?_; (case hd => rfl); (case hg => rfl); (case hr => first | (go_simp; done) | (go_simp; rfl)); intro gb106 hg w4 hbox hb; have n0_ := Aside0.mk (below_step (by repeat (first | (with_reducible first | exact HB.out | apply below_alloc | apply pw_below_drewN | apply below_drew1) | exact HB.out)) hb); have n1_ := Aside0.mk (hbox); have n2_ := Aside0.mk ((by rw [hg]; exact (below_size (by repeat (first | (with_reducible first | exact HB.out | apply below_alloc | apply pw_below_drewN | apply below_drew1) | exact HB.out))) : w.heap.size ≤ gb106)); have n3_ := Aside0.mk ((by rw [hg]; exact (below_size (by repeat (first | (with_reducible first | exact HB.out | apply below_alloc | apply pw_below_drewN | apply below_drew1) | exact HB.out))) : w.heap.size ≤ gb106)); clear HB; have HB := n0_; have BK106 := n1_; have GW106 := n2_; have GE106 := n3_; clear n0_ n1_ n2_ n3_; clear hb hbox hg; have hcz5_0 : w4.cell? ⟨gb106, 0, none⟩ = some (.string (⟨#[]⟩ : ByteArray)) := (blk_cell BK106.out 0).trans rfl; have hcz5_1 : w4.cell? ⟨gb106, 1, none⟩ = some (.slice none 0 0) := (blk_cell BK106.out 1).trans rfl; have hcz5_2 : w4.cell? ⟨gb106, 2, none⟩ = some (.int .i64 0) := (blk_cell BK106.out 2).trans rfl; have hfz5_0 := blk_frozen BK106.out 0; have hfz5_1 := blk_frozen BK106.out 1; have hfz5_2 := blk_frozen BK106.out 2))
    refine bodyPost_ret (results_ct rfl _ _ gb106 24 #[.string (⟨#[]⟩ : ByteArray), .slice none 0 0, .int .i64 0] (0, 0) _ rfl (by (with_reducible repeat (first | refine blk_drewN ?_ _ | refine blk_drew ?_ | refine blk_alloc ?_ _)); refine blk_put (cs := #[.string (⟨#[]⟩ : ByteArray), .slice none 0 0, .int .i64 0]) ?_ 2 _ rfl; (with_reducible repeat (first | refine blk_drewN ?_ _ | refine blk_drew ?_ | refine blk_alloc ?_ _)); refine blk_put (cs := #[.string (⟨#[]⟩ : ByteArray), .slice none 0 0, .int .i64 0]) ?_ 1 _ rfl; (with_reducible repeat (first | refine blk_drewN ?_ _ | refine blk_drew ?_ | refine blk_alloc ?_ _)); refine blk_put (cs := #[.string (⟨#[]⟩ : ByteArray), .slice none 0 0, .int .i64 0]) ?_ 0 _ rfl; (with_reducible repeat (first | refine blk_drewN ?_ _ | refine blk_drew ?_ | refine blk_alloc ?_ _)); exact BK106.out) Try.underlying24 rfl (by kernel_rfl)) rfl ?_
    exact ⟨_, by first | rfl | (simp [errW_none, errW_some] <;> rfl) | (simp [*, errW_none, errW_some] <;> rfl), by first | exact Kd.R_nil _ _ _ _ _ | exact Kd.N_nil _ _ _ _ _ | exact Kd.V_nil _ _ _ _ _ | exact Kd.Q_nil _ _ _ _ _ | exact Kd.S_nil _ _ _ _ _, by repeat (first | (with_reducible first | exact HB.out | apply below_alloc | apply pw_below_drewN | apply below_drew1 | refine below_set ?_ GE106.out) | exact HB.out)⟩
  · rw [if_neg c3] at H
    have c3b0 : decide (32 < (l1.length : Int)) = false := decide_eq_false c3
    have c3b1 : decide (32 < l1.length) = false := decide_eq_false (by omega)
    clear c3
    have H' := Aside0.mk H
    clear H
    go_enter Try.func8, Try.ntmps8
    go_wp2_with (first | ((with_reducible refine gate_dst (N := 4) rfl ?_); refine box_event ?hg (N := 4) ?hd (cs := #[.string (⟨#[]⟩ : ByteArray), .slice none 0 0, .int .i64 0]) (t := 24) ?hr ?_; (case hd => rfl); (case hg => rfl); (case hr => first | (go_simp; done) | (go_simp; rfl)); intro gb106 hg w6 hbox hb; have n0_ := Aside0.mk (below_step (by repeat (first | (with_reducible first | exact HB.out | apply below_alloc | apply pw_below_drewN | apply below_drew1) | exact HB.out)) hb); have n1_ := Aside0.mk (hbox); have n2_ := Aside0.mk ((by rw [hg]; exact (below_size (by repeat (first | (with_reducible first | exact HB.out | apply below_alloc | apply pw_below_drewN | apply below_drew1) | exact HB.out))) : w.heap.size ≤ gb106)); have n3_ := Aside0.mk ((by rw [hg]; exact (below_size (by repeat (first | (with_reducible first | exact HB.out | apply below_alloc | apply pw_below_drewN | apply below_drew1) | exact HB.out))) : w.heap.size ≤ gb106)); clear HB; have HB := n0_; have BK106 := n1_; have GW106 := n2_; have GE106 := n3_; clear n0_ n1_ n2_ n3_; clear hb hbox hg) | ((with_reducible refine gate_dst (N := 6) rfl ?_); refine box_event ?hg (N := 6) ?hd (cs := #[.string (⟨#[]⟩ : ByteArray), .slice none 0 0, .int .i64 0]) (t := 24) ?hr ?_; (case hd => rfl); (case hg => rfl); (case hr => first | (go_simp; done) | (go_simp; rfl)); intro gb107 hg w7 hbox hb; have n0_ := Aside0.mk (blk_below (g := gb106) (o := .cells #[.string (⟨#[]⟩ : ByteArray), .slice none 0 0, .int .i64 0] 24 (0, 0)) (by (with_reducible repeat (first | refine blk_drewN ?_ _ | refine blk_drew ?_ | refine blk_alloc ?_ _)); exact BK106.out) hb); have n1_ := Aside0.mk (below_step (by repeat (first | (with_reducible first | exact HB.out | apply below_alloc | apply pw_below_drewN | apply below_drew1 | refine below_set ?_ GE106.out) | exact HB.out)) hb); have n2_ := Aside0.mk (hbox); have n3_ := Aside0.mk ((by rw [hg]; exact (below_size (by repeat (first | (with_reducible first | exact HB.out | apply below_alloc | apply pw_below_drewN | apply below_drew1 | refine below_set ?_ GE106.out) | exact HB.out))) : w.heap.size ≤ gb107)); have n4_ := Aside0.mk ((by rw [hg]; exact (below_size (by repeat (first | (with_reducible first | exact HB.out | apply below_alloc | apply pw_below_drewN | apply below_drew1 | refine below_set ?_ GE106.out) | exact HB.out))) : w.heap.size ≤ gb107)); have n5_ := Aside0.mk ((by rw [hg]; exact Nat.ne_of_lt (blk_lt (g := gb106) (o := .cells #[.string (⟨#[]⟩ : ByteArray), .slice none 0 0, .int .i64 0] 24 (0, 0)) (by (with_reducible repeat (first | refine blk_drewN ?_ _ | refine blk_drew ?_ | refine blk_alloc ?_ _)); exact BK106.out)) : gb106 ≠ gb107)); have n6_ := Aside0.mk ((by rw [hg]; exact Nat.ne_of_gt (blk_lt (g := gb106) (o := .cells #[.string (⟨#[]⟩ : ByteArray), .slice none 0 0, .int .i64 0] 24 (0, 0)) (by (with_reducible repeat (first | refine blk_drewN ?_ _ | refine blk_drew ?_ | refine blk_alloc ?_ _)); exact BK106.out)) : gb107 ≠ gb106)); clear BK106; clear HB; have BK106 := n0_; have HB := n1_; have BK107 := n2_; have GW107 := n3_; have GE107 := n4_; have NB106_107 := n5_; have NB107_106 := n6_; clear n0_ n1_ n2_ n3_ n4_ n5_ n6_; clear hb hbox hg; have hnb8 := NB107_106.out; have hnc8 := NB106_107.out; have hcz9_0 : w7.cell? ⟨gb107, 0, none⟩ = some (.string (⟨#[]⟩ : ByteArray)) := (blk_cell BK107.out 0).trans rfl; have hcz9_1 : w7.cell? ⟨gb107, 1, none⟩ = some (.slice none 0 0) := (blk_cell BK107.out 1).trans rfl; have hcz9_2 : w7.cell? ⟨gb107, 2, none⟩ = some (.int .i64 0) := (blk_cell BK107.out 2).trans rfl; have hfz9_0 := blk_frozen BK107.out 0; have hfz9_1 := blk_frozen BK107.out 1; have hfz9_2 := blk_frozen BK107.out 2))
    go_loopg [7, 8, 22] k (fun kq v7 v8 v22 w' => ∃ (x7_1 : Int) (x8_1 : Int) (x22_1 : Int) (x107000_1 : ByteArray) (x107002_1 : Int) (x108001_1 : List (S35)) (u108001 : Value), v7 = .int .i64 x7_1 ∧ v8 = .int .i64 x8_1 ∧ v22 = .int .i64 x22_1 ∧ Aside0 (types_Layout.l0 kq l1 x7_1 x8_1 l1 (l1.length : Int) x22_1 a0 x108001_1 0 = some (r1, r2, r3, r4)) ∧ Aside0 (kq ≤ k) ∧ Aside0 (Kd.R k35 35 w' w.heap.size (fun _ => True) u108001 x108001_1) ∧ Aside0 (w'.heap[gb106]? = some (.cells #[.string x107000_1, (.slice none 0 0), .int .i64 x107002_1] 24 (0, 0))) ∧ Aside0 (w'.heap[gb107]? = some (.cells #[.string a0, u108001, .int .i64 0] 24 (0, 0))) ∧ Aside0 (Below w.heap.size w w'))
    case atStart => exact ⟨(0), (1), (0), ((⟨#[]⟩ : ByteArray)), (0), (([] : List (S35))), (.slice none 0 0), (by first | rfl | (simp; done) | (simp [*]; done)), (by first | rfl | (simp; done) | (simp [*]; done)), (by first | rfl | (simp; done) | (simp [*]; done)), H', ⟨Nat.le_refl _⟩, ⟨by first | exact Kd.R_nil _ _ _ _ _ | exact Kd.N_nil _ _ _ _ _ | exact Kd.V_nil _ _ _ _ _ | exact Kd.Q_nil _ _ _ _ _ | exact Kd.S_nil _ _ _ _ _⟩, ⟨by (with_reducible repeat (first | refine blk_drewN ?_ _ | refine blk_drew ?_ | refine blk_alloc ?_ _)); refine blk_far ?_ NB106_107.out _; (with_reducible repeat (first | refine blk_drewN ?_ _ | refine blk_drew ?_ | refine blk_alloc ?_ _)); refine blk_far ?_ NB106_107.out _; (with_reducible repeat (first | refine blk_drewN ?_ _ | refine blk_drew ?_ | refine blk_alloc ?_ _)); refine blk_far ?_ NB106_107.out _; (with_reducible repeat (first | refine blk_drewN ?_ _ | refine blk_drew ?_ | refine blk_alloc ?_ _)); exact BK106.out⟩, ⟨by (with_reducible repeat (first | refine blk_drewN ?_ _ | refine blk_drew ?_ | refine blk_alloc ?_ _)); refine blk_put (cs := #[.string a0, .slice none 0 0, .int .i64 0]) ?_ 2 _ rfl; (with_reducible repeat (first | refine blk_drewN ?_ _ | refine blk_drew ?_ | refine blk_alloc ?_ _)); refine blk_put (cs := #[.string a0, .slice none 0 0, .int .i64 0]) ?_ 1 _ rfl; (with_reducible repeat (first | refine blk_drewN ?_ _ | refine blk_drew ?_ | refine blk_alloc ?_ _)); refine blk_put (cs := #[.string (⟨#[]⟩ : ByteArray), .slice none 0 0, .int .i64 0]) ?_ 0 _ rfl; (with_reducible repeat (first | refine blk_drewN ?_ _ | refine blk_drew ?_ | refine blk_alloc ?_ _)); exact BK107.out⟩, ⟨by repeat (first | (with_reducible first | exact HB.out | apply below_alloc | apply pw_below_drewN | apply below_drew1 | refine below_set ?_ GE106.out | refine below_set ?_ GE107.out) | exact HB.out)⟩⟩
    case round =>
      clear H'
      try clear c1
      try clear p2
      try clear c3
      try clear c3b0
      try clear c3b1
      try clear c8
      try clear hcz5_0
      try clear hcz5_1
      try clear hcz5_2
      try clear hcz9_0
      try clear hcz9_1
      try clear hcz9_2
      try clear hfz5_0
      try clear hfz5_1
      try clear hfz5_2
      try clear hfz9_0
      try clear hfz9_1
      try clear hfz9_2
      obtain ⟨x7_1, x8_1, x22_1, x107000_1, x107002_1, x108001_1, u108001, rfl, rfl, rfl, HA, HK1, HO_108001, BK106, BK107, HB⟩ := hrel
      cases gk with
      | zero => exact absurd HA.out (by simp [types_Layout.l0])
      | succ k1 =>
        have H := HA.out
        clear HA
        simp only [types_Layout.l0] at H
        by_cases c10 : x22_1 < (l1.length : Int)
        · rw [if_pos c10] at H
          have c10b0 : decide (x22_1 < (l1.length : Int)) = true := decide_eq_true c10
          clear c10
          by_cases c11 : 0 ≤ x22_1
          · rw [if_pos c11] at H
            have c11b0 : decide (0 ≤ x22_1) = true := decide_eq_true c11
            clear c11
            by_cases c12 : x22_1 < (l1.length : Int)
            · rw [if_pos c12] at H
              have c12b0 : decide (x22_1 < (l1.length : Int)) = true := decide_eq_true c12
              clear c12
              replace H := Option.bind_eq_some_iff.mp H
              obtain ⟨⟨t111, t112⟩, A130, H⟩ := H
              replace H : (if t112 = 0 then ((types_Find.f a0 x108001_1 0 ((rd_T35 l1 x22_1).f0)).bind fun t113 => (types_Layout.j1 k1 l1 x7_1 x8_1 t111 l1 (l1.length : Int) x22_1 (decide (t113 ≥ 0)) a0 x108001_1 0 ((rd_T35 l1 x22_1).f0) ((rd_T35 l1 x22_1).f1.f0) ((rd_T35 l1 x22_1).f1.f1) ((rd_T35 l1 x22_1).f1.f2) ((rd_T35 l1 x22_1).f1.f3) ((rd_T35 l1 x22_1).f2))) else (types_Layout.j1 k1 l1 x7_1 x8_1 t111 l1 (l1.length : Int) x22_1 true a0 x108001_1 0 ((rd_T35 l1 x22_1).f0) ((rd_T35 l1 x22_1).f1.f0) ((rd_T35 l1 x22_1).f1.f1) ((rd_T35 l1 x22_1).f1.f2) ((rd_T35 l1 x22_1).f1.f3) ((rd_T35 l1 x22_1).f2))) = some (r1, r2, r3, r4) := H
              have A13 := Aside0.mk A130
              clear A130
              have HC14 := Aside0.mk H
              clear H
              have p109 : 0 ≤ (x22_1 : Int) := of_decide_eq_true (by first | (with_reducible assumption) | assumption)
              have q109 : x22_1 < (l1.length : Int) := of_decide_eq_true (by first | (with_reducible assumption) | assumption)
              obtain ⟨ad109, e109, hx109_0, hx109_1, hx109_2, hx109_3, hx109_4, hx109_5⟩ := at_T35 HR1.out x22_1 p109 q109
              cases e109
              replace hx109_0 := (HB.out.cell (World.block_lt_of_cell? w _ hx109_0)).trans hx109_0
              replace hx109_1 := (HB.out.cell (World.block_lt_of_cell? w _ hx109_1)).trans hx109_1
              replace hx109_2 := (HB.out.cell (World.block_lt_of_cell? w _ hx109_2)).trans hx109_2
              replace hx109_3 := (HB.out.cell (World.block_lt_of_cell? w _ hx109_3)).trans hx109_3
              replace hx109_4 := (HB.out.cell (World.block_lt_of_cell? w _ hx109_4)).trans hx109_4
              replace hx109_5 := (HB.out.cell (World.block_lt_of_cell? w _ hx109_5)).trans hx109_5
              replace p109 := eq_true p109
              replace q109 := eq_true q109
              go_upto_region 9 with (first | ((with_reducible refine gate_dst (N := 10) rfl ?_); refine box_event ?hg (N := 10) ?hd (cs := #[.string (⟨#[]⟩ : ByteArray), .int .i64 0, .int .i64 0, .int .i64 0, .int .i64 0, .int .i64 0]) (t := 35) ?hr ?_; (case hd => rfl); (case hg => rfl); (case hr => first | (go_simp; done) | (go_simp; rfl)); intro gb110 hg w15 hbox hb; have n0_ := Aside0.mk (Kd.R_below (Kd.R_elderB (by (with_reducible repeat (first | apply Kd.R_alloc | apply Kd.R_drewN | apply Kd.R_drew)); exact HO_108001.out) gb110 (Nat.le_of_eq hg.symm)) hb); have n1_ := Aside0.mk (blk_below (g := gb106) (o := .cells #[.string x107000_1, .slice none 0 0, .int .i64 x107002_1] 24 (0, 0)) (by (with_reducible repeat (first | refine blk_drewN ?_ _ | refine blk_drew ?_ | refine blk_alloc ?_ _)); exact BK106.out) hb); have n2_ := Aside0.mk (blk_below (g := gb107) (o := .cells #[.string a0, u108001, .int .i64 0] 24 (0, 0)) (by (with_reducible repeat (first | refine blk_drewN ?_ _ | refine blk_drew ?_ | refine blk_alloc ?_ _)); exact BK107.out) hb); have n3_ := Aside0.mk (below_step (by repeat (first | (with_reducible first | exact HB.out | apply below_alloc | apply pw_below_drewN | apply below_drew1 | refine below_set ?_ GE106.out | refine below_set ?_ GE107.out) | exact HB.out)) hb); have n4_ := Aside0.mk (hbox); have n5_ := Aside0.mk ((by rw [hg]; exact (below_size (by repeat (first | (with_reducible first | exact HB.out | apply below_alloc | apply pw_below_drewN | apply below_drew1 | refine below_set ?_ GE106.out | refine below_set ?_ GE107.out) | exact HB.out))) : w.heap.size ≤ gb110)); have n6_ := Aside0.mk ((by rw [hg]; exact (below_size (by repeat (first | (with_reducible first | exact HB.out | apply below_alloc | apply pw_below_drewN | apply below_drew1 | refine below_set ?_ GE106.out | refine below_set ?_ GE107.out) | exact HB.out))) : w.heap.size ≤ gb110)); have n7_ := Aside0.mk ((by rw [hg]; exact Nat.ne_of_lt (blk_lt (g := gb106) (o := .cells #[.string x107000_1, .slice none 0 0, .int .i64 x107002_1] 24 (0, 0)) (by (with_reducible repeat (first | refine blk_drewN ?_ _ | refine blk_drew ?_ | refine blk_alloc ?_ _)); exact BK106.out)) : gb106 ≠ gb110)); have n8_ := Aside0.mk ((by rw [hg]; exact Nat.ne_of_gt (blk_lt (g := gb106) (o := .cells #[.string x107000_1, .slice none 0 0, .int .i64 x107002_1] 24 (0, 0)) (by (with_reducible repeat (first | refine blk_drewN ?_ _ | refine blk_drew ?_ | refine blk_alloc ?_ _)); exact BK106.out)) : gb110 ≠ gb106)); have n9_ := Aside0.mk ((by rw [hg]; exact Nat.ne_of_lt (blk_lt (g := gb107) (o := .cells #[.string a0, u108001, .int .i64 0] 24 (0, 0)) (by (with_reducible repeat (first | refine blk_drewN ?_ _ | refine blk_drew ?_ | refine blk_alloc ?_ _)); exact BK107.out)) : gb107 ≠ gb110)); have n10_ := Aside0.mk ((by rw [hg]; exact Nat.ne_of_gt (blk_lt (g := gb107) (o := .cells #[.string a0, u108001, .int .i64 0] 24 (0, 0)) (by (with_reducible repeat (first | refine blk_drewN ?_ _ | refine blk_drew ?_ | refine blk_alloc ?_ _)); exact BK107.out)) : gb110 ≠ gb107)); clear HO_108001; clear BK106; clear BK107; clear HB; have HO_108001 := n0_; have BK106 := n1_; have BK107 := n2_; have HB := n3_; have BK110 := n4_; have GW110 := n5_; have GE110 := n6_; have NB106_110 := n7_; have NB110_106 := n8_; have NB107_110 := n9_; have NB110_107 := n10_; clear n0_ n1_ n2_ n3_ n4_ n5_ n6_ n7_ n8_ n9_ n10_; clear hb hbox hg; have hnb16 := NB110_106.out; have hnc16 := NB106_110.out; have hnb17 := NB110_107.out; have hnc17 := NB107_110.out; have hcz18_0 : w15.cell? ⟨gb110, 0, none⟩ = some (.string (⟨#[]⟩ : ByteArray)) := (blk_cell BK110.out 0).trans rfl; have hcz18_1 : w15.cell? ⟨gb110, 1, none⟩ = some (.int .i64 0) := (blk_cell BK110.out 1).trans rfl; have hcz18_2 : w15.cell? ⟨gb110, 2, none⟩ = some (.int .i64 0) := (blk_cell BK110.out 2).trans rfl; have hcz18_3 : w15.cell? ⟨gb110, 3, none⟩ = some (.int .i64 0) := (blk_cell BK110.out 3).trans rfl; have hcz18_4 : w15.cell? ⟨gb110, 4, none⟩ = some (.int .i64 0) := (blk_cell BK110.out 4).trans rfl; have hcz18_5 : w15.cell? ⟨gb110, 5, none⟩ = some (.int .i64 0) := (blk_cell BK110.out 5).trans rfl; have hfz18_0 := blk_frozen BK110.out 0; have hfz18_1 := blk_frozen BK110.out 1; have hfz18_2 := blk_frozen BK110.out 2; have hfz18_3 := blk_frozen BK110.out 3; have hfz18_4 := blk_frozen BK110.out 4; have hfz18_5 := blk_frozen BK110.out 5) | ((with_reducible refine gate_callee (f := 14) rfl ?_); refine goesL_ (some 29) rfl rfl Try.func14 (by kernel_rfl) rfl #[.agg #[.int .i64 ((rd_T35 l1 x22_1).f1.f0), .int .i64 ((rd_T35 l1 x22_1).f1.f1), .int .i64 ((rd_T35 l1 x22_1).f1.f2), .int .i64 ((rd_T35 l1 x22_1).f1.f3)], .slice none 0 0] rfl (by (try simp only [List.map_toArray, List.map_cons, List.map_nil]); first | done | rfl | (simp only [List.length_drop, List.length_take]; rfl)) ?_; (refine (types_Size.calls k1 ((rd_T35 l1 x22_1).f1.f0) ((rd_T35 l1 x22_1).f1.f1) ((rd_T35 l1 x22_1).f1.f2) ((rd_T35 l1 x22_1).f1.f3) _ _ ([] : List (S24)) t111 t112 _ ?side1 ?side2 A13.out).mono ?_); (case side1 => exact Kd.C_nil _ _); (case side2 => exact Nat.le_refl _); rintro e w19 ⟨rfl, hb⟩; refine ⟨_, rfl, ?_⟩; have n0_ := Aside0.mk (Kd.R_below (by (with_reducible repeat (first | apply Kd.R_alloc | apply Kd.R_drewN | apply Kd.R_drew)); exact (Kd.R_mono (Kd.R_far (p := ⟨gb110, 5, none⟩) (Kd.R_far (p := ⟨gb110, 4, none⟩) (Kd.R_far (p := ⟨gb110, 3, none⟩) (Kd.R_far (p := ⟨gb110, 2, none⟩) (Kd.R_far (p := ⟨gb110, 1, none⟩) (Kd.R_far (p := ⟨gb110, 0, none⟩) (Kd.R_mono HO_108001.out (fun k_ hk => (⟨hk, hk.2⟩ : _ ∧ k_ ≠ gb110))) (fun _ hk => hk.2) (.string ((rd_T35 l1 x22_1).f0))) (fun _ hk => hk.2) (.int .i64 ((rd_T35 l1 x22_1).f1.f0))) (fun _ hk => hk.2) (.int .i64 ((rd_T35 l1 x22_1).f1.f1))) (fun _ hk => hk.2) (.int .i64 ((rd_T35 l1 x22_1).f1.f2))) (fun _ hk => hk.2) (.int .i64 ((rd_T35 l1 x22_1).f1.f3))) (fun _ hk => hk.2) (.int .i64 ((rd_T35 l1 x22_1).f2))) (fun _ h_ => h_.1))) hb); have n1_ := Aside0.mk (blk_below (g := gb106) (o := .cells #[.string x107000_1, .slice none 0 0, .int .i64 x107002_1] 24 (0, 0)) (by (with_reducible repeat (first | refine blk_drewN ?_ _ | refine blk_drew ?_ | refine blk_alloc ?_ _)); refine blk_far ?_ NB106_110.out _; (with_reducible repeat (first | refine blk_drewN ?_ _ | refine blk_drew ?_ | refine blk_alloc ?_ _)); refine blk_far ?_ NB106_110.out _; (with_reducible repeat (first | refine blk_drewN ?_ _ | refine blk_drew ?_ | refine blk_alloc ?_ _)); refine blk_far ?_ NB106_110.out _; (with_reducible repeat (first | refine blk_drewN ?_ _ | refine blk_drew ?_ | refine blk_alloc ?_ _)); refine blk_far ?_ NB106_110.out _; (with_reducible repeat (first | refine blk_drewN ?_ _ | refine blk_drew ?_ | refine blk_alloc ?_ _)); refine blk_far ?_ NB106_110.out _; (with_reducible repeat (first | refine blk_drewN ?_ _ | refine blk_drew ?_ | refine blk_alloc ?_ _)); refine blk_far ?_ NB106_110.out _; (with_reducible repeat (first | refine blk_drewN ?_ _ | refine blk_drew ?_ | refine blk_alloc ?_ _)); exact BK106.out) hb); have n2_ := Aside0.mk (blk_below (g := gb107) (o := .cells #[.string a0, u108001, .int .i64 0] 24 (0, 0)) (by (with_reducible repeat (first | refine blk_drewN ?_ _ | refine blk_drew ?_ | refine blk_alloc ?_ _)); refine blk_far ?_ NB107_110.out _; (with_reducible repeat (first | refine blk_drewN ?_ _ | refine blk_drew ?_ | refine blk_alloc ?_ _)); refine blk_far ?_ NB107_110.out _; (with_reducible repeat (first | refine blk_drewN ?_ _ | refine blk_drew ?_ | refine blk_alloc ?_ _)); refine blk_far ?_ NB107_110.out _; (with_reducible repeat (first | refine blk_drewN ?_ _ | refine blk_drew ?_ | refine blk_alloc ?_ _)); refine blk_far ?_ NB107_110.out _; (with_reducible repeat (first | refine blk_drewN ?_ _ | refine blk_drew ?_ | refine blk_alloc ?_ _)); refine blk_far ?_ NB107_110.out _; (with_reducible repeat (first | refine blk_drewN ?_ _ | refine blk_drew ?_ | refine blk_alloc ?_ _)); refine blk_far ?_ NB107_110.out _; (with_reducible repeat (first | refine blk_drewN ?_ _ | refine blk_drew ?_ | refine blk_alloc ?_ _)); exact BK107.out) hb); have n3_ := Aside0.mk (blk_below (g := gb110) (o := .cells #[.string ((rd_T35 l1 x22_1).f0), .int .i64 ((rd_T35 l1 x22_1).f1.f0), .int .i64 ((rd_T35 l1 x22_1).f1.f1), .int .i64 ((rd_T35 l1 x22_1).f1.f2), .int .i64 ((rd_T35 l1 x22_1).f1.f3), .int .i64 ((rd_T35 l1 x22_1).f2)] 35 (0, 0)) (by (with_reducible repeat (first | refine blk_drewN ?_ _ | refine blk_drew ?_ | refine blk_alloc ?_ _)); refine blk_put (cs := #[.string ((rd_T35 l1 x22_1).f0), .int .i64 ((rd_T35 l1 x22_1).f1.f0), .int .i64 ((rd_T35 l1 x22_1).f1.f1), .int .i64 ((rd_T35 l1 x22_1).f1.f2), .int .i64 ((rd_T35 l1 x22_1).f1.f3), .int .i64 0]) ?_ 5 _ rfl; (with_reducible repeat (first | refine blk_drewN ?_ _ | refine blk_drew ?_ | refine blk_alloc ?_ _)); refine blk_put (cs := #[.string ((rd_T35 l1 x22_1).f0), .int .i64 ((rd_T35 l1 x22_1).f1.f0), .int .i64 ((rd_T35 l1 x22_1).f1.f1), .int .i64 ((rd_T35 l1 x22_1).f1.f2), .int .i64 0, .int .i64 0]) ?_ 4 _ rfl; (with_reducible repeat (first | refine blk_drewN ?_ _ | refine blk_drew ?_ | refine blk_alloc ?_ _)); refine blk_put (cs := #[.string ((rd_T35 l1 x22_1).f0), .int .i64 ((rd_T35 l1 x22_1).f1.f0), .int .i64 ((rd_T35 l1 x22_1).f1.f1), .int .i64 0, .int .i64 0, .int .i64 0]) ?_ 3 _ rfl; (with_reducible repeat (first | refine blk_drewN ?_ _ | refine blk_drew ?_ | refine blk_alloc ?_ _)); refine blk_put (cs := #[.string ((rd_T35 l1 x22_1).f0), .int .i64 ((rd_T35 l1 x22_1).f1.f0), .int .i64 0, .int .i64 0, .int .i64 0, .int .i64 0]) ?_ 2 _ rfl; (with_reducible repeat (first | refine blk_drewN ?_ _ | refine blk_drew ?_ | refine blk_alloc ?_ _)); refine blk_put (cs := #[.string ((rd_T35 l1 x22_1).f0), .int .i64 0, .int .i64 0, .int .i64 0, .int .i64 0, .int .i64 0]) ?_ 1 _ rfl; (with_reducible repeat (first | refine blk_drewN ?_ _ | refine blk_drew ?_ | refine blk_alloc ?_ _)); refine blk_put (cs := #[.string (⟨#[]⟩ : ByteArray), .int .i64 0, .int .i64 0, .int .i64 0, .int .i64 0, .int .i64 0]) ?_ 0 _ rfl; (with_reducible repeat (first | refine blk_drewN ?_ _ | refine blk_drew ?_ | refine blk_alloc ?_ _)); exact BK110.out) hb); have n4_ := Aside0.mk (below_step (by repeat (first | (with_reducible first | exact HB.out | apply below_alloc | apply pw_below_drewN | apply below_drew1 | refine below_set ?_ GE106.out | refine below_set ?_ GE107.out | refine below_set ?_ GE110.out) | exact HB.out)) hb); clear HO_108001; clear BK106; clear BK107; clear BK110; clear HB; have HO_108001 := n0_; have BK106 := n1_; have BK107 := n2_; have BK110 := n3_; have HB := n4_; clear n0_ n1_ n2_ n3_ n4_; (try clear hb); (try clear hb2); (try clear hk); (try clear hi)))
              (try simp only [Act.put, List.setIfInBounds_toArray, List.set_cons_zero, List.set_cons_succ])
              go_cut [40] (fun v40 wc => ∃ (kq : Nat) (x40_13 : Bool), v40 = .bool x40_13 ∧ Aside0 (types_Layout.j1 kq l1 x7_1 x8_1 t111 l1 (l1.length : Int) x22_1 x40_13 a0 x108001_1 0 ((rd_T35 l1 x22_1).f0) ((rd_T35 l1 x22_1).f1.f0) ((rd_T35 l1 x22_1).f1.f1) ((rd_T35 l1 x22_1).f1.f2) ((rd_T35 l1 x22_1).f1.f3) ((rd_T35 l1 x22_1).f2) = some (r1, r2, r3, r4)) ∧ Aside0 (kq ≤ k1) ∧ Aside0 (Kd.R k35 35 wc w.heap.size (fun k_ => k_ ≠ gb110) u108001 x108001_1) ∧ Aside0 (wc.heap[gb106]? = some (.cells #[.string x107000_1, (.slice none 0 0), .int .i64 x107002_1] 24 (0, 0))) ∧ Aside0 (wc.heap[gb107]? = some (.cells #[.string a0, u108001, .int .i64 0] 24 (0, 0))) ∧ Aside0 (wc.heap[gb110]? = some (.cells #[.string ((rd_T35 l1 x22_1).f0), .int .i64 ((rd_T35 l1 x22_1).f1.f0), .int .i64 ((rd_T35 l1 x22_1).f1.f1), .int .i64 ((rd_T35 l1 x22_1).f1.f2), .int .i64 ((rd_T35 l1 x22_1).f1.f3), .int .i64 ((rd_T35 l1 x22_1).f2)] 35 (0, 0))) ∧ Aside0 (Below w.heap.size w wc))
              case first =>
                have H := HC14.out
                clear HC14
                by_cases c20 : t112 = 0
                · rw [if_pos c20] at H
                  have c20b0 : (t112 == 0) = true := beq_iff_eq.mpr c20
                  have c20b1 : (t112 != 0) = false := bne_eq_false_iff_eq.mpr c20
                  clear c20
                  (first | rw [c20b0] | (simp only [i64_w, i32_w]; rw [c20b0]) | skip)
                  replace H := Option.bind_eq_some_iff.mp H
                  obtain ⟨t113, A210, H⟩ := H
                  replace H : (types_Layout.j1 k1 l1 x7_1 x8_1 t111 l1 (l1.length : Int) x22_1 (decide (t113 ≥ 0)) a0 x108001_1 0 ((rd_T35 l1 x22_1).f0) ((rd_T35 l1 x22_1).f1.f0) ((rd_T35 l1 x22_1).f1.f1) ((rd_T35 l1 x22_1).f1.f2) ((rd_T35 l1 x22_1).f1.f3) ((rd_T35 l1 x22_1).f2)) = some (r1, r2, r3, r4) := H
                  have A21 := Aside0.mk A210
                  clear A210
                  have H' := Aside0.mk H
                  clear H
                  have hnb22 := NB107_106.out
                  have hnc22 := NB106_107.out
                  have hnb23 := NB107_110.out
                  have hnc23 := NB110_107.out
                  have hcz24_0 : w19.cell? ⟨gb107, 0, none⟩ = some (.string a0) := (blk_cell BK107.out 0).trans rfl
                  have hcz24_1 : w19.cell? ⟨gb107, 1, none⟩ = some (u108001) := (blk_cell BK107.out 1).trans rfl
                  have hcz24_2 : w19.cell? ⟨gb107, 2, none⟩ = some (.int .i64 0) := (blk_cell BK107.out 2).trans rfl
                  have hfz24_0 := blk_frozen BK107.out 0
                  have hfz24_1 := blk_frozen BK107.out 1
                  have hfz24_2 := blk_frozen BK107.out 2
                  have hnb25 := NB110_106.out
                  have hnc25 := NB106_110.out
                  have hcz26_0 : w19.cell? ⟨gb110, 0, none⟩ = some (.string ((rd_T35 l1 x22_1).f0)) := (blk_cell BK110.out 0).trans rfl
                  have hcz26_1 : w19.cell? ⟨gb110, 1, none⟩ = some (.int .i64 ((rd_T35 l1 x22_1).f1.f0)) := (blk_cell BK110.out 1).trans rfl
                  have hcz26_2 : w19.cell? ⟨gb110, 2, none⟩ = some (.int .i64 ((rd_T35 l1 x22_1).f1.f1)) := (blk_cell BK110.out 2).trans rfl
                  have hcz26_3 : w19.cell? ⟨gb110, 3, none⟩ = some (.int .i64 ((rd_T35 l1 x22_1).f1.f2)) := (blk_cell BK110.out 3).trans rfl
                  have hcz26_4 : w19.cell? ⟨gb110, 4, none⟩ = some (.int .i64 ((rd_T35 l1 x22_1).f1.f3)) := (blk_cell BK110.out 4).trans rfl
                  have hcz26_5 : w19.cell? ⟨gb110, 5, none⟩ = some (.int .i64 ((rd_T35 l1 x22_1).f2)) := (blk_cell BK110.out 5).trans rfl
                  have hfz26_0 := blk_frozen BK110.out 0
                  have hfz26_1 := blk_frozen BK110.out 1
                  have hfz26_2 := blk_frozen BK110.out 2
                  have hfz26_3 := blk_frozen BK110.out 3
                  have hfz26_4 := blk_frozen BK110.out 4
                  have hfz26_5 := blk_frozen BK110.out 5
                  obtain ⟨Ao27, co27, eo27⟩ := Kd.R_slice HO_108001.out
                  subst eo27
                  go_wp2_with (first | (go_at_call 11; (with_reducible refine (types_Find.calls a0 _ _ x108001_1 0 ((rd_T35 l1 x22_1).f0) t113 _ ?side1 ?side2 A21.out).mono ?_); (case side1 => repeat (first | exact (Kd.R_reads' HO_108001.out).2.2 | (with_reducible refine Kd.C_alloc ?_ _) | (with_reducible refine Kd.C_drewN ?_ _) | (with_reducible refine Kd.C_drew ?_))); (case side2 => exact (Kd.R_reads' HO_108001.out).2.1); rintro e w28 ⟨rfl, hb⟩; have n0_ := Aside0.mk (Kd.R_below (by (with_reducible repeat (first | apply Kd.R_alloc | apply Kd.R_drewN | apply Kd.R_drew)); exact HO_108001.out) hb); have n1_ := Aside0.mk (blk_below (g := gb106) (o := .cells #[.string x107000_1, .slice none 0 0, .int .i64 x107002_1] 24 (0, 0)) (by (with_reducible repeat (first | refine blk_drewN ?_ _ | refine blk_drew ?_ | refine blk_alloc ?_ _)); exact BK106.out) hb); have n2_ := Aside0.mk (blk_below (g := gb107) (o := .cells #[.string a0, .slice Ao27 x108001_1.length co27, .int .i64 0] 24 (0, 0)) (by (with_reducible repeat (first | refine blk_drewN ?_ _ | refine blk_drew ?_ | refine blk_alloc ?_ _)); exact BK107.out) hb); have n3_ := Aside0.mk (blk_below (g := gb110) (o := .cells #[.string ((rd_T35 l1 x22_1).f0), .int .i64 ((rd_T35 l1 x22_1).f1.f0), .int .i64 ((rd_T35 l1 x22_1).f1.f1), .int .i64 ((rd_T35 l1 x22_1).f1.f2), .int .i64 ((rd_T35 l1 x22_1).f1.f3), .int .i64 ((rd_T35 l1 x22_1).f2)] 35 (0, 0)) (by (with_reducible repeat (first | refine blk_drewN ?_ _ | refine blk_drew ?_ | refine blk_alloc ?_ _)); exact BK110.out) hb); have n4_ := Aside0.mk (below_step (by repeat (first | (with_reducible first | exact HB.out | apply below_alloc | apply pw_below_drewN | apply below_drew1 | refine below_set ?_ GE106.out | refine below_set ?_ GE107.out | refine below_set ?_ GE110.out) | exact HB.out)) hb); clear HO_108001; clear BK106; clear BK107; clear BK110; clear HB; have HO_108001 := n0_; have BK106 := n1_; have BK107 := n2_; have BK110 := n3_; have HB := n4_; clear n0_ n1_ n2_ n3_ n4_; (try clear hb); (try clear hb2); (try clear hk); (try clear hi)))
                  go_meet
                  case rel => exact ⟨_, (decide (t113 ≥ 0)), (by first | rfl | (simp; done) | (simp [*]; done)), H', ⟨by have := HK1.out; first | omega | exact Nat.le_refl _⟩, ⟨by (with_reducible repeat (first | apply Kd.R_alloc | apply Kd.R_drewN | apply Kd.R_drew)); exact Kd.R_mono HO_108001.out (fun _ hk => hk.2)⟩, ⟨by (with_reducible repeat (first | refine blk_drewN ?_ _ | refine blk_drew ?_ | refine blk_alloc ?_ _)); exact BK106.out⟩, ⟨by (with_reducible repeat (first | refine blk_drewN ?_ _ | refine blk_drew ?_ | refine blk_alloc ?_ _)); exact BK107.out⟩, ⟨by (with_reducible repeat (first | refine blk_drewN ?_ _ | refine blk_drew ?_ | refine blk_alloc ?_ _)); exact BK110.out⟩, ⟨by repeat (first | (with_reducible first | exact HB.out | apply below_alloc | apply pw_below_drewN | apply below_drew1 | refine below_set ?_ GE106.out | refine below_set ?_ GE107.out | refine below_set ?_ GE110.out) | exact HB.out)⟩⟩
                · rw [if_neg c20] at H
                  have c20b0 : (t112 == 0) = false := beq_eq_false_iff_ne.mpr c20
                  have c20b1 : (t112 != 0) = true := bne_iff_ne.mpr c20
                  (first | rw [c20b0] | (simp only [i64_w, i32_w]; rw [c20b0]) | skip)
                  have H' := Aside0.mk H
                  clear H
                  go_wp2
                  go_meet
                  case rel => exact ⟨_, (true), (by first | rfl | (simp; done) | (simp [*]; done)), H', ⟨by have := HK1.out; first | omega | exact Nat.le_refl _⟩, ⟨by (with_reducible repeat (first | apply Kd.R_alloc | apply Kd.R_drewN | apply Kd.R_drew)); exact Kd.R_mono HO_108001.out (fun _ hk => hk.2)⟩, ⟨by (with_reducible repeat (first | refine blk_drewN ?_ _ | refine blk_drew ?_ | refine blk_alloc ?_ _)); exact BK106.out⟩, ⟨by (with_reducible repeat (first | refine blk_drewN ?_ _ | refine blk_drew ?_ | refine blk_alloc ?_ _)); exact BK107.out⟩, ⟨by (with_reducible repeat (first | refine blk_drewN ?_ _ | refine blk_drew ?_ | refine blk_alloc ?_ _)); exact BK110.out⟩, ⟨by repeat (first | (with_reducible first | exact HB.out | apply below_alloc | apply pw_below_drewN | apply below_drew1 | refine below_set ?_ GE106.out | refine below_set ?_ GE107.out | refine below_set ?_ GE110.out) | exact HB.out)⟩⟩
              case rest =>
                clear HC14
                try clear c1
                try clear p1
                try clear q1
                try clear hx1
                try clear c2
                try clear p2
                try clear c3
                try clear c3b0
                try clear c3b1
                try clear c8
                try clear c10
                try clear c10b0
                try clear p10
                try clear q10
                try clear hx10
                try clear c11
                try clear c11b0
                try clear c12
                try clear c12b0
                try clear c14
                try clear c16
                try clear c17
                try clear c20
                try clear c20b0
                try clear c20b1
                try clear c22
                try clear c23
                try clear c25
                try clear hcz18_0
                try clear hcz18_1
                try clear hcz18_2
                try clear hcz18_3
                try clear hcz18_4
                try clear hcz18_5
                try clear hcz24_0
                try clear hcz24_1
                try clear hcz24_2
                try clear hcz26_0
                try clear hcz26_1
                try clear hcz26_2
                try clear hcz26_3
                try clear hcz26_4
                try clear hcz26_5
                try clear hcz5_0
                try clear hcz5_1
                try clear hcz5_2
                try clear hcz9_0
                try clear hcz9_1
                try clear hcz9_2
                try clear hfz18_0
                try clear hfz18_1
                try clear hfz18_2
                try clear hfz18_3
                try clear hfz18_4
                try clear hfz18_5
                try clear hfz24_0
                try clear hfz24_1
                try clear hfz24_2
                try clear hfz26_0
                try clear hfz26_1
                try clear hfz26_2
                try clear hfz26_3
                try clear hfz26_4
                try clear hfz26_5
                try clear hfz5_0
                try clear hfz5_1
                try clear hfz5_2
                try clear hfz9_0
                try clear hfz9_1
                try clear hfz9_2
                try clear hx109_0
                try clear hx109_1
                try clear hx109_2
                try clear hx109_3
                try clear hx109_4
                try clear hx109_5
                try clear p109
                try clear p2
                try clear q109
                obtain ⟨kq, x40_13, rfl, HA, HJ13, HO_108001, BK106, BK107, BK110, HB⟩ := hcut
                cases kq with
                | zero => exact absurd HA.out (by simp [types_Layout.j1])
                | succ kj13 =>
                  have H := HA.out
                  clear HA
                  simp only [types_Layout.j1] at H
                  by_cases c29 : x40_13 = true
                  · subst c29
                    have H1 : (some ((⟨#[]⟩ : ByteArray), ([] : List (S35)), 0, 1)) = some (r1, r2, r3, r4) := by rw [if_pos rfl] at H; exact H
                    clear H
                    have H := H1
                    clear H1
                    simp only [Option.some.injEq, Prod.mk.injEq] at H
                    obtain ⟨rfl, rfl, rfl, rfl⟩ := H
                    have hnb30 := NB106_107.out
                    have hnc30 := NB107_106.out
                    have hnb31 := NB106_110.out
                    have hnc31 := NB110_106.out
                    have hcz32_0 : wc.cell? ⟨gb106, 0, none⟩ = some (.string x107000_1) := (blk_cell BK106.out 0).trans rfl
                    have hcz32_1 : wc.cell? ⟨gb106, 1, none⟩ = some (.slice none 0 0) := (blk_cell BK106.out 1).trans rfl
                    have hcz32_2 : wc.cell? ⟨gb106, 2, none⟩ = some (.int .i64 x107002_1) := (blk_cell BK106.out 2).trans rfl
                    have hfz32_0 := blk_frozen BK106.out 0
                    have hfz32_1 := blk_frozen BK106.out 1
                    have hfz32_2 := blk_frozen BK106.out 2
                    go_wp2
                    refine bodyPost_ret (results_ct rfl _ _ gb106 24 #[.string (⟨#[]⟩ : ByteArray), .slice none 0 0, .int .i64 0] (0, 0) _ rfl (by (with_reducible repeat (first | refine blk_drewN ?_ _ | refine blk_drew ?_ | refine blk_alloc ?_ _)); refine blk_put (cs := #[.string (⟨#[]⟩ : ByteArray), .slice none 0 0, .int .i64 x107002_1]) ?_ 2 _ rfl; (with_reducible repeat (first | refine blk_drewN ?_ _ | refine blk_drew ?_ | refine blk_alloc ?_ _)); refine blk_put (cs := #[.string (⟨#[]⟩ : ByteArray), .slice none 0 0, .int .i64 x107002_1]) ?_ 1 _ rfl; (with_reducible repeat (first | refine blk_drewN ?_ _ | refine blk_drew ?_ | refine blk_alloc ?_ _)); refine blk_put (cs := #[.string x107000_1, .slice none 0 0, .int .i64 x107002_1]) ?_ 0 _ rfl; (with_reducible repeat (first | refine blk_drewN ?_ _ | refine blk_drew ?_ | refine blk_alloc ?_ _)); exact BK106.out) Try.underlying24 rfl (by kernel_rfl)) rfl ?_
                    exact ⟨_, by first | rfl | (simp [errW_none, errW_some] <;> rfl) | (simp [*, errW_none, errW_some] <;> rfl), by first | exact Kd.R_nil _ _ _ _ _ | exact Kd.N_nil _ _ _ _ _ | exact Kd.V_nil _ _ _ _ _ | exact Kd.Q_nil _ _ _ _ _ | exact Kd.S_nil _ _ _ _ _, by repeat (first | (with_reducible first | exact HB.out | apply below_alloc | apply pw_below_drewN | apply below_drew1 | refine below_set ?_ GE106.out | refine below_set ?_ GE107.out | refine below_set ?_ GE110.out) | exact HB.out)⟩
                  · replace c29 := Bool.eq_false_iff.mpr c29
                    subst c29
                    have H1 : ((types_each.f ((rd_T35 l1 x22_1).f1.f0)).bind fun t114 => (if ((rd_T35 l1 x22_1).f1.f0) = 4 then ((types_each.f ((rd_T35 l1 x22_1).f1.f1)).bind fun t115 => ((types_up.f x7_1 t115).bind fun t116 => (if x108001_1.length < 2513169434916 then (types_Layout.l0 kj13 l1 (wrap64 (t116 + t111)) (mx x8_1 t115) l1 (l1.length : Int) (wrap64 (x22_1 + 1)) a0 (x108001_1 ++ [(⟨((rd_T35 l1 x22_1).f0), (⟨((rd_T35 l1 x22_1).f1.f0), ((rd_T35 l1 x22_1).f1.f1), ((rd_T35 l1 x22_1).f1.f2), ((rd_T35 l1 x22_1).f1.f3)⟩ : S33), t116⟩ : S35)]) 0) else (none)))) else ((types_up.f x7_1 t114).bind fun t120 => (if x108001_1.length < 2513169434916 then (types_Layout.l0 kj13 l1 (wrap64 (t120 + t111)) (mx x8_1 t114) l1 (l1.length : Int) (wrap64 (x22_1 + 1)) a0 (x108001_1 ++ [(⟨((rd_T35 l1 x22_1).f0), (⟨((rd_T35 l1 x22_1).f1.f0), ((rd_T35 l1 x22_1).f1.f1), ((rd_T35 l1 x22_1).f1.f2), ((rd_T35 l1 x22_1).f1.f3)⟩ : S33), t120⟩ : S35)]) 0) else (none))))) = some (r1, r2, r3, r4) := by rw [if_neg (show ¬ (false = true) by decide)] at H; exact H
                    clear H
                    have H := H1
                    clear H1
                    replace H := Option.bind_eq_some_iff.mp H
                    obtain ⟨t114, A330, H⟩ := H
                    replace H : (if ((rd_T35 l1 x22_1).f1.f0) = 4 then ((types_each.f ((rd_T35 l1 x22_1).f1.f1)).bind fun t115 => ((types_up.f x7_1 t115).bind fun t116 => (if x108001_1.length < 2513169434916 then (types_Layout.l0 kj13 l1 (wrap64 (t116 + t111)) (mx x8_1 t115) l1 (l1.length : Int) (wrap64 (x22_1 + 1)) a0 (x108001_1 ++ [(⟨((rd_T35 l1 x22_1).f0), (⟨((rd_T35 l1 x22_1).f1.f0), ((rd_T35 l1 x22_1).f1.f1), ((rd_T35 l1 x22_1).f1.f2), ((rd_T35 l1 x22_1).f1.f3)⟩ : S33), t116⟩ : S35)]) 0) else (none)))) else ((types_up.f x7_1 t114).bind fun t120 => (if x108001_1.length < 2513169434916 then (types_Layout.l0 kj13 l1 (wrap64 (t120 + t111)) (mx x8_1 t114) l1 (l1.length : Int) (wrap64 (x22_1 + 1)) a0 (x108001_1 ++ [(⟨((rd_T35 l1 x22_1).f0), (⟨((rd_T35 l1 x22_1).f1.f0), ((rd_T35 l1 x22_1).f1.f1), ((rd_T35 l1 x22_1).f1.f2), ((rd_T35 l1 x22_1).f1.f3)⟩ : S33), t120⟩ : S35)]) 0) else (none)))) = some (r1, r2, r3, r4) := H
                    have A33 := Aside0.mk A330
                    clear A330
                    by_cases c34 : ((rd_T35 l1 x22_1).f1.f0) = 4
                    · rw [if_pos c34] at H
                      have c34b0 : (((rd_T35 l1 x22_1).f1.f0) == 4) = true := beq_iff_eq.mpr c34
                      have c34b1 : (((rd_T35 l1 x22_1).f1.f0) != 4) = false := bne_eq_false_iff_eq.mpr c34
                      clear c34
                      replace H := Option.bind_eq_some_iff.mp H
                      obtain ⟨t115, A350, H⟩ := H
                      replace H : ((types_up.f x7_1 t115).bind fun t116 => (if x108001_1.length < 2513169434916 then (types_Layout.l0 kj13 l1 (wrap64 (t116 + t111)) (mx x8_1 t115) l1 (l1.length : Int) (wrap64 (x22_1 + 1)) a0 (x108001_1 ++ [(⟨((rd_T35 l1 x22_1).f0), (⟨((rd_T35 l1 x22_1).f1.f0), ((rd_T35 l1 x22_1).f1.f1), ((rd_T35 l1 x22_1).f1.f2), ((rd_T35 l1 x22_1).f1.f3)⟩ : S33), t116⟩ : S35)]) 0) else (none))) = some (r1, r2, r3, r4) := H
                      have A35 := Aside0.mk A350
                      clear A350
                      obtain ⟨ji36, hji36⟩ : ∃ j_ : Int, (mx x8_1 t115) = j_ := ⟨_, rfl⟩
                      replace H : ((types_up.f x7_1 t115).bind fun t116 => (if x108001_1.length < 2513169434916 then (types_Layout.l0 kj13 l1 (wrap64 (t116 + t111)) ji36 l1 (l1.length : Int) (wrap64 (x22_1 + 1)) a0 (x108001_1 ++ [(⟨((rd_T35 l1 x22_1).f0), (⟨((rd_T35 l1 x22_1).f1.f0), ((rd_T35 l1 x22_1).f1.f1), ((rd_T35 l1 x22_1).f1.f2), ((rd_T35 l1 x22_1).f1.f3)⟩ : S33), t116⟩ : S35)]) 0) else (none))) = some (r1, r2, r3, r4) := by first | (rw [hji36] at H; exact H) | (simp only [hji36] at H ⊢; exact H)
                      (try rw [hji36] at A33)
                      (try rw [hji36] at A35)
                      have hji36_ : (if x8_1 < t115 then t115 else x8_1) = ji36 := hji36
                      replace H := Option.bind_eq_some_iff.mp H
                      obtain ⟨t116, A370, H⟩ := H
                      replace H : (if x108001_1.length < 2513169434916 then (types_Layout.l0 kj13 l1 (wrap64 (t116 + t111)) ji36 l1 (l1.length : Int) (wrap64 (x22_1 + 1)) a0 (x108001_1 ++ [(⟨((rd_T35 l1 x22_1).f0), (⟨((rd_T35 l1 x22_1).f1.f0), ((rd_T35 l1 x22_1).f1.f1), ((rd_T35 l1 x22_1).f1.f2), ((rd_T35 l1 x22_1).f1.f3)⟩ : S33), t116⟩ : S35)]) 0) else (none)) = some (r1, r2, r3, r4) := H
                      have A37 := Aside0.mk A370
                      clear A370
                      by_cases c38 : x108001_1.length < 2513169434916
                      · rw [if_pos c38] at H
                        have LMc38 := Aside0.mk c38
                        clear c38
                        obtain ⟨y117, hy117⟩ : ∃ y_ : List (S35), y_ = (x108001_1 ++ [(⟨((rd_T35 l1 x22_1).f0), (⟨((rd_T35 l1 x22_1).f1.f0), ((rd_T35 l1 x22_1).f1.f1), ((rd_T35 l1 x22_1).f1.f2), ((rd_T35 l1 x22_1).f1.f3)⟩ : S33), t116⟩ : S35)]) := ⟨_, rfl⟩
                        replace H : (types_Layout.l0 kj13 l1 (wrap64 (t116 + t111)) ji36 l1 (l1.length : Int) (wrap64 (x22_1 + 1)) a0 y117 0) = some (r1, r2, r3, r4) := by first | (rw [hy117]; with_reducible exact H) | (have H2_ := (Option.bind_some _ _).symm.trans H; rw [hy117]; with_reducible exact H2_) | (have H2_ := (Option.bind_some _ _).symm.trans H; with_reducible exact H2_) | with_reducible exact H | (rw [hy117]; exact H) | exact H
                        have Ny117 := Aside0.mk hy117
                        clear hy117
                        have H' := Aside0.mk H
                        clear H
                        have hnb39 := NB110_106.out
                        have hnc39 := NB106_110.out
                        have hnb40 := NB110_107.out
                        have hnc40 := NB107_110.out
                        have hcz41_0 : wc.cell? ⟨gb110, 0, none⟩ = some (.string ((rd_T35 l1 x22_1).f0)) := (blk_cell BK110.out 0).trans rfl
                        have hcz41_1 : wc.cell? ⟨gb110, 1, none⟩ = some (.int .i64 ((rd_T35 l1 x22_1).f1.f0)) := (blk_cell BK110.out 1).trans rfl
                        have hcz41_2 : wc.cell? ⟨gb110, 2, none⟩ = some (.int .i64 ((rd_T35 l1 x22_1).f1.f1)) := (blk_cell BK110.out 2).trans rfl
                        have hcz41_3 : wc.cell? ⟨gb110, 3, none⟩ = some (.int .i64 ((rd_T35 l1 x22_1).f1.f2)) := (blk_cell BK110.out 3).trans rfl
                        have hcz41_4 : wc.cell? ⟨gb110, 4, none⟩ = some (.int .i64 ((rd_T35 l1 x22_1).f1.f3)) := (blk_cell BK110.out 4).trans rfl
                        have hcz41_5 : wc.cell? ⟨gb110, 5, none⟩ = some (.int .i64 ((rd_T35 l1 x22_1).f2)) := (blk_cell BK110.out 5).trans rfl
                        have hfz41_0 := blk_frozen BK110.out 0
                        have hfz41_1 := blk_frozen BK110.out 1
                        have hfz41_2 := blk_frozen BK110.out 2
                        have hfz41_3 := blk_frozen BK110.out 3
                        have hfz41_4 := blk_frozen BK110.out 4
                        have hfz41_5 := blk_frozen BK110.out 5
                        go_wp2_with (first | ((with_reducible refine gate_callee (f := 26) rfl ?_); refine goesL_ (some 45) rfl rfl Try.func26 (by kernel_rfl) rfl #[.int .i64 ((rd_T35 l1 x22_1).f1.f0)] rfl (by (try simp only [List.map_toArray, List.map_cons, List.map_nil]); first | done | rfl | (simp only [List.length_drop, List.length_take]; rfl)) ?_; (with_reducible refine (types_each.calls ((rd_T35 l1 x22_1).f1.f0) t114 _ A33.out).mono ?_); rintro e w' ⟨rfl, ⟨nd, rfl⟩⟩; refine ⟨_, rfl, ?_⟩; (try (rw [drewN_self wc]; generalize hq_ : World.drewN wc _ = wc; have n0_ : Aside0 (Kd.R k35 35 wc w.heap.size (fun k_ => k_ ≠ gb110) u108001 x108001_1) := ⟨by rw [← hq_]; exact (by (with_reducible repeat (first | apply Kd.R_alloc | apply Kd.R_drewN | apply Kd.R_drew)); exact HO_108001.out)⟩; have n1_ : Aside0 (wc.heap[gb106]? = some (.cells #[.string x107000_1, .slice none 0 0, .int .i64 x107002_1] 24 (0, 0))) := ⟨by rw [← hq_]; exact (by (with_reducible repeat (first | refine blk_drewN ?_ _ | refine blk_drew ?_ | refine blk_alloc ?_ _)); exact BK106.out)⟩; have n2_ : Aside0 (wc.heap[gb107]? = some (.cells #[.string a0, u108001, .int .i64 0] 24 (0, 0))) := ⟨by rw [← hq_]; exact (by (with_reducible repeat (first | refine blk_drewN ?_ _ | refine blk_drew ?_ | refine blk_alloc ?_ _)); exact BK107.out)⟩; have n3_ : Aside0 (wc.heap[gb110]? = some (.cells #[.string ((rd_T35 l1 x22_1).f0), .int .i64 ((rd_T35 l1 x22_1).f1.f0), .int .i64 ((rd_T35 l1 x22_1).f1.f1), .int .i64 ((rd_T35 l1 x22_1).f1.f2), .int .i64 ((rd_T35 l1 x22_1).f1.f3), .int .i64 ((rd_T35 l1 x22_1).f2)] 35 (0, 0))) := ⟨by rw [← hq_]; exact (by (with_reducible repeat (first | refine blk_drewN ?_ _ | refine blk_drew ?_ | refine blk_alloc ?_ _)); exact BK110.out)⟩; have n4_ : Aside0 (Below w.heap.size w wc) := ⟨by rw [← hq_]; exact (by repeat (first | (with_reducible first | exact HB.out | apply below_alloc | apply pw_below_drewN | apply below_drew1 | refine below_set ?_ GE106.out | refine below_set ?_ GE107.out | refine below_set ?_ GE110.out) | exact HB.out))⟩; clear HO_108001 BK106 BK107 BK110 HB hq_; have HO_108001 := n0_; have BK106 := n1_; have BK107 := n2_; have BK110 := n3_; have HB := n4_; clear n0_ n1_ n2_ n3_ n4_)); (try (have hcz42_0 : wc.cell? ⟨gb110, 0, none⟩ = some (.string ((rd_T35 l1 x22_1).f0)) := (blk_cell BK110.out 0).trans rfl; have hcz42_1 : wc.cell? ⟨gb110, 1, none⟩ = some (.int .i64 ((rd_T35 l1 x22_1).f1.f0)) := (blk_cell BK110.out 1).trans rfl; have hcz42_2 : wc.cell? ⟨gb110, 2, none⟩ = some (.int .i64 ((rd_T35 l1 x22_1).f1.f1)) := (blk_cell BK110.out 2).trans rfl; have hcz42_3 : wc.cell? ⟨gb110, 3, none⟩ = some (.int .i64 ((rd_T35 l1 x22_1).f1.f2)) := (blk_cell BK110.out 3).trans rfl; have hcz42_4 : wc.cell? ⟨gb110, 4, none⟩ = some (.int .i64 ((rd_T35 l1 x22_1).f1.f3)) := (blk_cell BK110.out 4).trans rfl; have hcz42_5 : wc.cell? ⟨gb110, 5, none⟩ = some (.int .i64 ((rd_T35 l1 x22_1).f2)) := (blk_cell BK110.out 5).trans rfl; have hfz42_0 := blk_frozen BK110.out 0; have hfz42_1 := blk_frozen BK110.out 1; have hfz42_2 := blk_frozen BK110.out 2; have hfz42_3 := blk_frozen BK110.out 3; have hfz42_4 := blk_frozen BK110.out 4; have hfz42_5 := blk_frozen BK110.out 5))) | ((with_reducible refine gate_callee (f := 26) rfl ?_); refine goesL_ (some 53) rfl rfl Try.func26 (by kernel_rfl) rfl #[.int .i64 ((rd_T35 l1 x22_1).f1.f1)] rfl (by (try simp only [List.map_toArray, List.map_cons, List.map_nil]); first | done | rfl | (simp only [List.length_drop, List.length_take]; rfl)) ?_; (with_reducible refine (types_each.calls ((rd_T35 l1 x22_1).f1.f1) t115 _ A35.out).mono ?_); rintro e w' ⟨rfl, ⟨nd, rfl⟩⟩; refine ⟨_, rfl, ?_⟩; (try (rw [drewN_self wc]; generalize hq_ : World.drewN wc _ = wc; have n0_ : Aside0 (Kd.R k35 35 wc w.heap.size (fun k_ => k_ ≠ gb110) u108001 x108001_1) := ⟨by rw [← hq_]; exact (by (with_reducible repeat (first | apply Kd.R_alloc | apply Kd.R_drewN | apply Kd.R_drew)); exact HO_108001.out)⟩; have n1_ : Aside0 (wc.heap[gb106]? = some (.cells #[.string x107000_1, .slice none 0 0, .int .i64 x107002_1] 24 (0, 0))) := ⟨by rw [← hq_]; exact (by (with_reducible repeat (first | refine blk_drewN ?_ _ | refine blk_drew ?_ | refine blk_alloc ?_ _)); exact BK106.out)⟩; have n2_ : Aside0 (wc.heap[gb107]? = some (.cells #[.string a0, u108001, .int .i64 0] 24 (0, 0))) := ⟨by rw [← hq_]; exact (by (with_reducible repeat (first | refine blk_drewN ?_ _ | refine blk_drew ?_ | refine blk_alloc ?_ _)); exact BK107.out)⟩; have n3_ : Aside0 (wc.heap[gb110]? = some (.cells #[.string ((rd_T35 l1 x22_1).f0), .int .i64 ((rd_T35 l1 x22_1).f1.f0), .int .i64 ((rd_T35 l1 x22_1).f1.f1), .int .i64 ((rd_T35 l1 x22_1).f1.f2), .int .i64 ((rd_T35 l1 x22_1).f1.f3), .int .i64 ((rd_T35 l1 x22_1).f2)] 35 (0, 0))) := ⟨by rw [← hq_]; exact (by (with_reducible repeat (first | refine blk_drewN ?_ _ | refine blk_drew ?_ | refine blk_alloc ?_ _)); exact BK110.out)⟩; have n4_ : Aside0 (Below w.heap.size w wc) := ⟨by rw [← hq_]; exact (by repeat (first | (with_reducible first | exact HB.out | apply below_alloc | apply pw_below_drewN | apply below_drew1 | refine below_set ?_ GE106.out | refine below_set ?_ GE107.out | refine below_set ?_ GE110.out) | exact HB.out))⟩; clear HO_108001 BK106 BK107 BK110 HB hq_; have HO_108001 := n0_; have BK106 := n1_; have BK107 := n2_; have BK110 := n3_; have HB := n4_; clear n0_ n1_ n2_ n3_ n4_)); (try (have hcz43_0 : wc.cell? ⟨gb110, 0, none⟩ = some (.string ((rd_T35 l1 x22_1).f0)) := (blk_cell BK110.out 0).trans rfl; have hcz43_1 : wc.cell? ⟨gb110, 1, none⟩ = some (.int .i64 ((rd_T35 l1 x22_1).f1.f0)) := (blk_cell BK110.out 1).trans rfl; have hcz43_2 : wc.cell? ⟨gb110, 2, none⟩ = some (.int .i64 ((rd_T35 l1 x22_1).f1.f1)) := (blk_cell BK110.out 2).trans rfl; have hcz43_3 : wc.cell? ⟨gb110, 3, none⟩ = some (.int .i64 ((rd_T35 l1 x22_1).f1.f2)) := (blk_cell BK110.out 3).trans rfl; have hcz43_4 : wc.cell? ⟨gb110, 4, none⟩ = some (.int .i64 ((rd_T35 l1 x22_1).f1.f3)) := (blk_cell BK110.out 4).trans rfl; have hcz43_5 : wc.cell? ⟨gb110, 5, none⟩ = some (.int .i64 ((rd_T35 l1 x22_1).f2)) := (blk_cell BK110.out 5).trans rfl; have hfz43_0 := blk_frozen BK110.out 0; have hfz43_1 := blk_frozen BK110.out 1; have hfz43_2 := blk_frozen BK110.out 2; have hfz43_3 := blk_frozen BK110.out 3; have hfz43_4 := blk_frozen BK110.out 4; have hfz43_5 := blk_frozen BK110.out 5))) | ((with_reducible refine gate_callee (f := 27) rfl ?_); refine goesL_ (some 59) rfl rfl Try.func27 (by kernel_rfl) rfl #[.int .i64 x7_1, .int .i64 t115] rfl (by (try simp only [List.map_toArray, List.map_cons, List.map_nil]); first | done | rfl | (simp only [List.length_drop, List.length_take]; rfl)) ?_; (with_reducible refine (types_up.calls x7_1 t115 t116 _ A37.out).mono ?_); rintro e w' ⟨rfl, ⟨nd, rfl⟩⟩; refine ⟨_, rfl, ?_⟩; (try (rw [drewN_self wc]; generalize hq_ : World.drewN wc _ = wc; have n0_ : Aside0 (Kd.R k35 35 wc w.heap.size (fun k_ => k_ ≠ gb110) u108001 x108001_1) := ⟨by rw [← hq_]; exact (by (with_reducible repeat (first | apply Kd.R_alloc | apply Kd.R_drewN | apply Kd.R_drew)); exact HO_108001.out)⟩; have n1_ : Aside0 (wc.heap[gb106]? = some (.cells #[.string x107000_1, .slice none 0 0, .int .i64 x107002_1] 24 (0, 0))) := ⟨by rw [← hq_]; exact (by (with_reducible repeat (first | refine blk_drewN ?_ _ | refine blk_drew ?_ | refine blk_alloc ?_ _)); exact BK106.out)⟩; have n2_ : Aside0 (wc.heap[gb107]? = some (.cells #[.string a0, u108001, .int .i64 0] 24 (0, 0))) := ⟨by rw [← hq_]; exact (by (with_reducible repeat (first | refine blk_drewN ?_ _ | refine blk_drew ?_ | refine blk_alloc ?_ _)); exact BK107.out)⟩; have n3_ : Aside0 (wc.heap[gb110]? = some (.cells #[.string ((rd_T35 l1 x22_1).f0), .int .i64 ((rd_T35 l1 x22_1).f1.f0), .int .i64 ((rd_T35 l1 x22_1).f1.f1), .int .i64 ((rd_T35 l1 x22_1).f1.f2), .int .i64 ((rd_T35 l1 x22_1).f1.f3), .int .i64 ((rd_T35 l1 x22_1).f2)] 35 (0, 0))) := ⟨by rw [← hq_]; exact (by (with_reducible repeat (first | refine blk_drewN ?_ _ | refine blk_drew ?_ | refine blk_alloc ?_ _)); exact BK110.out)⟩; have n4_ : Aside0 (Below w.heap.size w wc) := ⟨by rw [← hq_]; exact (by repeat (first | (with_reducible first | exact HB.out | apply below_alloc | apply pw_below_drewN | apply below_drew1 | refine below_set ?_ GE106.out | refine below_set ?_ GE107.out | refine below_set ?_ GE110.out) | exact HB.out))⟩; clear HO_108001 BK106 BK107 BK110 HB hq_; have HO_108001 := n0_; have BK106 := n1_; have BK107 := n2_; have BK110 := n3_; have HB := n4_; clear n0_ n1_ n2_ n3_ n4_)); (try (have hcz44_0 : wc.cell? ⟨gb110, 0, none⟩ = some (.string ((rd_T35 l1 x22_1).f0)) := (blk_cell BK110.out 0).trans rfl; have hcz44_1 : wc.cell? ⟨gb110, 1, none⟩ = some (.int .i64 ((rd_T35 l1 x22_1).f1.f0)) := (blk_cell BK110.out 1).trans rfl; have hcz44_2 : wc.cell? ⟨gb110, 2, none⟩ = some (.int .i64 ((rd_T35 l1 x22_1).f1.f1)) := (blk_cell BK110.out 2).trans rfl; have hcz44_3 : wc.cell? ⟨gb110, 3, none⟩ = some (.int .i64 ((rd_T35 l1 x22_1).f1.f2)) := (blk_cell BK110.out 3).trans rfl; have hcz44_4 : wc.cell? ⟨gb110, 4, none⟩ = some (.int .i64 ((rd_T35 l1 x22_1).f1.f3)) := (blk_cell BK110.out 4).trans rfl; have hcz44_5 : wc.cell? ⟨gb110, 5, none⟩ = some (.int .i64 ((rd_T35 l1 x22_1).f2)) := (blk_cell BK110.out 5).trans rfl; have hfz44_0 := blk_frozen BK110.out 0; have hfz44_1 := blk_frozen BK110.out 1; have hfz44_2 := blk_frozen BK110.out 2; have hfz44_3 := blk_frozen BK110.out 3; have hfz44_4 := blk_frozen BK110.out 4; have hfz44_5 := blk_frozen BK110.out 5)); have hnb45 := NB107_106.out; have hnc45 := NB106_107.out; have hcz46_0 : wc.cell? ⟨gb107, 0, none⟩ = some (.string a0) := (blk_cell BK107.out 0).trans rfl; have hcz46_1 : wc.cell? ⟨gb107, 1, none⟩ = some (u108001) := (blk_cell BK107.out 1).trans rfl; have hcz46_2 : wc.cell? ⟨gb107, 2, none⟩ = some (.int .i64 0) := (blk_cell BK107.out 2).trans rfl; have hfz46_0 := blk_frozen BK107.out 0; have hfz46_1 := blk_frozen BK107.out 1; have hfz46_2 := blk_frozen BK107.out 2) | ((with_reducible refine gate_builtin (b := .append) (xs := #[.tmp 66, .tmp 68]) rfl ?_); at_builtin; refine Kd.R_append k35 (w0 := w) w.heap.size rfl (.tmp 66) (.tmp 68) 22 35 (.agg #[(.string ⟨#[]⟩), (.int .i64 0), (.int .i64 0), (.int .i64 0), (.int .i64 0), (.int .i64 0)]) 56 rfl Try.underlying22 info35 rfl (by decide) (by omega) u108001 x108001_1 (⟨((rd_T35 l1 x22_1).f0), (⟨((rd_T35 l1 x22_1).f1.f0), ((rd_T35 l1 x22_1).f1.f1), ((rd_T35 l1 x22_1).f1.f2), ((rd_T35 l1 x22_1).f1.f3)⟩ : S33), t116⟩ : S35) [.string ((rd_T35 l1 x22_1).f0), .int .i64 ((rd_T35 l1 x22_1).f1.f0), .int .i64 ((rd_T35 l1 x22_1).f1.f1), .int .i64 ((rd_T35 l1 x22_1).f1.f2), .int .i64 ((rd_T35 l1 x22_1).f1.f3), .int .i64 t116] (fun k_ => k_ ≠ gb110) (fun _ => False) rfl (by first | (go_simp; done) | (go_simp; rfl)) ?aP (fun _ hk => hk.elim) ?aF ?aO ?aB ?aS ?aL ?_; (case aP => exact k35_mkM _ _ _ (⟨((rd_T35 l1 x22_1).f0), (⟨((rd_T35 l1 x22_1).f1.f0), ((rd_T35 l1 x22_1).f1.f1), ((rd_T35 l1 x22_1).f1.f2), ((rd_T35 l1 x22_1).f1.f3)⟩ : S33), t116⟩ : S35)); (case aB => exact (by repeat (first | (with_reducible first | exact HB.out | apply below_alloc | apply pw_below_drewN | apply below_drew1 | refine below_set ?_ GE106.out | refine below_set ?_ GE107.out | refine below_set ?_ GE110.out) | exact HB.out))); (case aF => exact (fun k_ hk => Kd.freshB (g := gb110) (o := .cells #[.string ((rd_T35 l1 x22_1).f0), .int .i64 ((rd_T35 l1 x22_1).f1.f0), .int .i64 ((rd_T35 l1 x22_1).f1.f1), .int .i64 ((rd_T35 l1 x22_1).f1.f2), .int .i64 ((rd_T35 l1 x22_1).f1.f3), .int .i64 t116] 35 (0, 0)) (by (with_reducible repeat (first | refine blk_drewN ?_ _ | refine blk_drew ?_ | refine blk_alloc ?_ _)); refine blk_put (cs := #[.string ((rd_T35 l1 x22_1).f0), .int .i64 ((rd_T35 l1 x22_1).f1.f0), .int .i64 ((rd_T35 l1 x22_1).f1.f1), .int .i64 ((rd_T35 l1 x22_1).f1.f2), .int .i64 ((rd_T35 l1 x22_1).f1.f3), .int .i64 ((rd_T35 l1 x22_1).f2)]) ?_ 5 _ rfl; (with_reducible repeat (first | refine blk_drewN ?_ _ | refine blk_drew ?_ | refine blk_alloc ?_ _)); exact BK110.out) k_ hk)); (case aO => exact (by (with_reducible repeat (first | apply Kd.R_alloc | apply Kd.R_drewN | apply Kd.R_drew)); exact Kd.R_mono (Kd.R_far (p := ⟨gb110, 5, none⟩) (Kd.R_mono HO_108001.out (fun k_ hk => (⟨hk, hk⟩ : _ ∧ k_ ≠ gb110))) (fun _ hk => hk.2) (.int .i64 t116)) (fun _ hk => hk.1))); (case aS => exact (below_size (by repeat (first | (with_reducible first | exact HB.out | apply below_alloc | apply pw_below_drewN | apply below_drew1 | refine below_set ?_ GE106.out | refine below_set ?_ GE107.out | refine below_set ?_ GE110.out) | exact HB.out)))); (case aL => have := LMc38.out; omega); intro v118 w47 ho hb hg hat; rw [← Ny117.out] at ho; have n0_ := Aside0.mk (blk_grown (g := gb106) (o := .cells #[.string x107000_1, .slice none 0 0, .int .i64 x107002_1] 24 (0, 0)) (by (with_reducible repeat (first | refine blk_drewN ?_ _ | refine blk_drew ?_ | refine blk_alloc ?_ _)); refine blk_far ?_ NB106_110.out _; (with_reducible repeat (first | refine blk_drewN ?_ _ | refine blk_drew ?_ | refine blk_alloc ?_ _)); exact BK106.out) hg (Kd.R_ne HO_108001.out BK106.out (by decide))); have n1_ := Aside0.mk (blk_grown (g := gb107) (o := .cells #[.string a0, u108001, .int .i64 0] 24 (0, 0)) (by (with_reducible repeat (first | refine blk_drewN ?_ _ | refine blk_drew ?_ | refine blk_alloc ?_ _)); refine blk_far ?_ NB107_110.out _; (with_reducible repeat (first | refine blk_drewN ?_ _ | refine blk_drew ?_ | refine blk_alloc ?_ _)); exact BK107.out) hg (Kd.R_ne HO_108001.out BK107.out (by decide))); have n2_ := Aside0.mk (blk_grown (g := gb110) (o := .cells #[.string ((rd_T35 l1 x22_1).f0), .int .i64 ((rd_T35 l1 x22_1).f1.f0), .int .i64 ((rd_T35 l1 x22_1).f1.f1), .int .i64 ((rd_T35 l1 x22_1).f1.f2), .int .i64 ((rd_T35 l1 x22_1).f1.f3), .int .i64 t116] 35 (0, 0)) (by (with_reducible repeat (first | refine blk_drewN ?_ _ | refine blk_drew ?_ | refine blk_alloc ?_ _)); refine blk_put (cs := #[.string ((rd_T35 l1 x22_1).f0), .int .i64 ((rd_T35 l1 x22_1).f1.f0), .int .i64 ((rd_T35 l1 x22_1).f1.f1), .int .i64 ((rd_T35 l1 x22_1).f1.f2), .int .i64 ((rd_T35 l1 x22_1).f1.f3), .int .i64 ((rd_T35 l1 x22_1).f2)]) ?_ 5 _ rfl; (with_reducible repeat (first | refine blk_drewN ?_ _ | refine blk_drew ?_ | refine blk_alloc ?_ _)); exact BK110.out) hg (Kd.R_away HO_108001.out (fun _ hk => hk))); have n3_ := Aside0.mk (hb); have n4_ := Aside0.mk (ho); clear BK106; clear BK107; clear BK110; clear HB; clear HO_108001; have BK106 := n0_; have BK107 := n1_; have BK110 := n2_; have HB := n3_; have HO119 := n4_; clear n0_ n1_ n2_ n3_ n4_; clear ho hb hg hat; obtain ⟨Ao48, co48, eo48⟩ := Kd.R_slice HO119.out; subst eo48; have hcz49_0 : w47.cell? ⟨gb107, 0, none⟩ = some (.string a0) := (blk_cell BK107.out 0).trans rfl; have hcz49_1 : w47.cell? ⟨gb107, 1, none⟩ = some (u108001) := (blk_cell BK107.out 1).trans rfl; have hcz49_2 : w47.cell? ⟨gb107, 2, none⟩ = some (.int .i64 0) := (blk_cell BK107.out 2).trans rfl; have hfz49_0 := blk_frozen BK107.out 0; have hfz49_1 := blk_frozen BK107.out 1; have hfz49_2 := blk_frozen BK107.out 2))
                        go_roundg kj13
                        case measure => have := HK1.out; have := HJ13.out; omega
                        case rel => exact ⟨(wrap64 (t116 + t111)), (ji36), (wrap64 (x22_1 + 1)), (x107000_1), (x107002_1), (y117), (.slice Ao48 y117.length co48), (by first | rfl | (simp; done) | (simp [*]; done)), (by first | rfl | (simp; done) | (simp only [← hji36] <;> (first | rfl | simp)) | (simp [*]; done)), (by first | rfl | (simp; done) | (simp [*]; done)), H', ⟨by have := HK1.out; have := HJ13.out; omega⟩, ⟨by (with_reducible repeat (first | apply Kd.R_alloc | apply Kd.R_drewN | apply Kd.R_drew)); exact Kd.R_mono (Kd.R_far (p := ⟨gb107, 1, none⟩) (Kd.R_types HO119.out BK107.out (by decide)) (fun _ hk => hk.2) (.slice Ao48 y117.length co48)) (fun _ hk => trivial)⟩, ⟨by (with_reducible repeat (first | refine blk_drewN ?_ _ | refine blk_drew ?_ | refine blk_alloc ?_ _)); refine blk_far ?_ NB106_107.out _; (with_reducible repeat (first | refine blk_drewN ?_ _ | refine blk_drew ?_ | refine blk_alloc ?_ _)); exact BK106.out⟩, ⟨by (with_reducible repeat (first | refine blk_drewN ?_ _ | refine blk_drew ?_ | refine blk_alloc ?_ _)); refine blk_put (cs := #[.string a0, u108001, .int .i64 0]) ?_ 1 _ rfl; (with_reducible repeat (first | refine blk_drewN ?_ _ | refine blk_drew ?_ | refine blk_alloc ?_ _)); exact BK107.out⟩, ⟨by repeat (first | (with_reducible first | exact HB.out | apply below_alloc | apply pw_below_drewN | apply below_drew1 | refine below_set ?_ GE106.out | refine below_set ?_ GE107.out | refine below_set ?_ GE110.out) | exact HB.out)⟩⟩
                      · rw [if_neg c38] at H
                        exact absurd H (by simp)
                    · rw [if_neg c34] at H
                      have c34b0 : (((rd_T35 l1 x22_1).f1.f0) == 4) = false := beq_eq_false_iff_ne.mpr c34
                      have c34b1 : (((rd_T35 l1 x22_1).f1.f0) != 4) = true := bne_iff_ne.mpr c34
                      obtain ⟨ji50, hji50⟩ : ∃ j_ : Int, (mx x8_1 t114) = j_ := ⟨_, rfl⟩
                      replace H : ((types_up.f x7_1 t114).bind fun t120 => (if x108001_1.length < 2513169434916 then (types_Layout.l0 kj13 l1 (wrap64 (t120 + t111)) ji50 l1 (l1.length : Int) (wrap64 (x22_1 + 1)) a0 (x108001_1 ++ [(⟨((rd_T35 l1 x22_1).f0), (⟨((rd_T35 l1 x22_1).f1.f0), ((rd_T35 l1 x22_1).f1.f1), ((rd_T35 l1 x22_1).f1.f2), ((rd_T35 l1 x22_1).f1.f3)⟩ : S33), t120⟩ : S35)]) 0) else (none))) = some (r1, r2, r3, r4) := by first | (rw [hji50] at H; exact H) | (simp only [hji50] at H ⊢; exact H)
                      (try rw [hji50] at A33)
                      have hji50_ : (if x8_1 < t114 then t114 else x8_1) = ji50 := hji50
                      replace H := Option.bind_eq_some_iff.mp H
                      obtain ⟨t120, A510, H⟩ := H
                      replace H : (if x108001_1.length < 2513169434916 then (types_Layout.l0 kj13 l1 (wrap64 (t120 + t111)) ji50 l1 (l1.length : Int) (wrap64 (x22_1 + 1)) a0 (x108001_1 ++ [(⟨((rd_T35 l1 x22_1).f0), (⟨((rd_T35 l1 x22_1).f1.f0), ((rd_T35 l1 x22_1).f1.f1), ((rd_T35 l1 x22_1).f1.f2), ((rd_T35 l1 x22_1).f1.f3)⟩ : S33), t120⟩ : S35)]) 0) else (none)) = some (r1, r2, r3, r4) := H
                      have A51 := Aside0.mk A510
                      clear A510
                      by_cases c52 : x108001_1.length < 2513169434916
                      · rw [if_pos c52] at H
                        have LMc52 := Aside0.mk c52
                        clear c52
                        obtain ⟨y121, hy121⟩ : ∃ y_ : List (S35), y_ = (x108001_1 ++ [(⟨((rd_T35 l1 x22_1).f0), (⟨((rd_T35 l1 x22_1).f1.f0), ((rd_T35 l1 x22_1).f1.f1), ((rd_T35 l1 x22_1).f1.f2), ((rd_T35 l1 x22_1).f1.f3)⟩ : S33), t120⟩ : S35)]) := ⟨_, rfl⟩
                        replace H : (types_Layout.l0 kj13 l1 (wrap64 (t120 + t111)) ji50 l1 (l1.length : Int) (wrap64 (x22_1 + 1)) a0 y121 0) = some (r1, r2, r3, r4) := by first | (rw [hy121]; with_reducible exact H) | (have H2_ := (Option.bind_some _ _).symm.trans H; rw [hy121]; with_reducible exact H2_) | (have H2_ := (Option.bind_some _ _).symm.trans H; with_reducible exact H2_) | with_reducible exact H | (rw [hy121]; exact H) | exact H
                        have Ny121 := Aside0.mk hy121
                        clear hy121
                        have H' := Aside0.mk H
                        clear H
                        have hnb53 := NB110_106.out
                        have hnc53 := NB106_110.out
                        have hnb54 := NB110_107.out
                        have hnc54 := NB107_110.out
                        have hcz55_0 : wc.cell? ⟨gb110, 0, none⟩ = some (.string ((rd_T35 l1 x22_1).f0)) := (blk_cell BK110.out 0).trans rfl
                        have hcz55_1 : wc.cell? ⟨gb110, 1, none⟩ = some (.int .i64 ((rd_T35 l1 x22_1).f1.f0)) := (blk_cell BK110.out 1).trans rfl
                        have hcz55_2 : wc.cell? ⟨gb110, 2, none⟩ = some (.int .i64 ((rd_T35 l1 x22_1).f1.f1)) := (blk_cell BK110.out 2).trans rfl
                        have hcz55_3 : wc.cell? ⟨gb110, 3, none⟩ = some (.int .i64 ((rd_T35 l1 x22_1).f1.f2)) := (blk_cell BK110.out 3).trans rfl
                        have hcz55_4 : wc.cell? ⟨gb110, 4, none⟩ = some (.int .i64 ((rd_T35 l1 x22_1).f1.f3)) := (blk_cell BK110.out 4).trans rfl
                        have hcz55_5 : wc.cell? ⟨gb110, 5, none⟩ = some (.int .i64 ((rd_T35 l1 x22_1).f2)) := (blk_cell BK110.out 5).trans rfl
                        have hfz55_0 := blk_frozen BK110.out 0
                        have hfz55_1 := blk_frozen BK110.out 1
                        have hfz55_2 := blk_frozen BK110.out 2
                        have hfz55_3 := blk_frozen BK110.out 3
                        have hfz55_4 := blk_frozen BK110.out 4
                        have hfz55_5 := blk_frozen BK110.out 5
                        go_wp2_with (first | ((with_reducible refine gate_callee (f := 26) rfl ?_); refine goesL_ (some 45) rfl rfl Try.func26 (by kernel_rfl) rfl #[.int .i64 ((rd_T35 l1 x22_1).f1.f0)] rfl (by (try simp only [List.map_toArray, List.map_cons, List.map_nil]); first | done | rfl | (simp only [List.length_drop, List.length_take]; rfl)) ?_; (with_reducible refine (types_each.calls ((rd_T35 l1 x22_1).f1.f0) t114 _ A33.out).mono ?_); rintro e w' ⟨rfl, ⟨nd, rfl⟩⟩; refine ⟨_, rfl, ?_⟩; (try (rw [drewN_self wc]; generalize hq_ : World.drewN wc _ = wc; have n0_ : Aside0 (Kd.R k35 35 wc w.heap.size (fun k_ => k_ ≠ gb110) u108001 x108001_1) := ⟨by rw [← hq_]; exact (by (with_reducible repeat (first | apply Kd.R_alloc | apply Kd.R_drewN | apply Kd.R_drew)); exact HO_108001.out)⟩; have n1_ : Aside0 (wc.heap[gb106]? = some (.cells #[.string x107000_1, .slice none 0 0, .int .i64 x107002_1] 24 (0, 0))) := ⟨by rw [← hq_]; exact (by (with_reducible repeat (first | refine blk_drewN ?_ _ | refine blk_drew ?_ | refine blk_alloc ?_ _)); exact BK106.out)⟩; have n2_ : Aside0 (wc.heap[gb107]? = some (.cells #[.string a0, u108001, .int .i64 0] 24 (0, 0))) := ⟨by rw [← hq_]; exact (by (with_reducible repeat (first | refine blk_drewN ?_ _ | refine blk_drew ?_ | refine blk_alloc ?_ _)); exact BK107.out)⟩; have n3_ : Aside0 (wc.heap[gb110]? = some (.cells #[.string ((rd_T35 l1 x22_1).f0), .int .i64 ((rd_T35 l1 x22_1).f1.f0), .int .i64 ((rd_T35 l1 x22_1).f1.f1), .int .i64 ((rd_T35 l1 x22_1).f1.f2), .int .i64 ((rd_T35 l1 x22_1).f1.f3), .int .i64 ((rd_T35 l1 x22_1).f2)] 35 (0, 0))) := ⟨by rw [← hq_]; exact (by (with_reducible repeat (first | refine blk_drewN ?_ _ | refine blk_drew ?_ | refine blk_alloc ?_ _)); exact BK110.out)⟩; have n4_ : Aside0 (Below w.heap.size w wc) := ⟨by rw [← hq_]; exact (by repeat (first | (with_reducible first | exact HB.out | apply below_alloc | apply pw_below_drewN | apply below_drew1 | refine below_set ?_ GE106.out | refine below_set ?_ GE107.out | refine below_set ?_ GE110.out) | exact HB.out))⟩; clear HO_108001 BK106 BK107 BK110 HB hq_; have HO_108001 := n0_; have BK106 := n1_; have BK107 := n2_; have BK110 := n3_; have HB := n4_; clear n0_ n1_ n2_ n3_ n4_)); (try (have hcz56_0 : wc.cell? ⟨gb110, 0, none⟩ = some (.string ((rd_T35 l1 x22_1).f0)) := (blk_cell BK110.out 0).trans rfl; have hcz56_1 : wc.cell? ⟨gb110, 1, none⟩ = some (.int .i64 ((rd_T35 l1 x22_1).f1.f0)) := (blk_cell BK110.out 1).trans rfl; have hcz56_2 : wc.cell? ⟨gb110, 2, none⟩ = some (.int .i64 ((rd_T35 l1 x22_1).f1.f1)) := (blk_cell BK110.out 2).trans rfl; have hcz56_3 : wc.cell? ⟨gb110, 3, none⟩ = some (.int .i64 ((rd_T35 l1 x22_1).f1.f2)) := (blk_cell BK110.out 3).trans rfl; have hcz56_4 : wc.cell? ⟨gb110, 4, none⟩ = some (.int .i64 ((rd_T35 l1 x22_1).f1.f3)) := (blk_cell BK110.out 4).trans rfl; have hcz56_5 : wc.cell? ⟨gb110, 5, none⟩ = some (.int .i64 ((rd_T35 l1 x22_1).f2)) := (blk_cell BK110.out 5).trans rfl; have hfz56_0 := blk_frozen BK110.out 0; have hfz56_1 := blk_frozen BK110.out 1; have hfz56_2 := blk_frozen BK110.out 2; have hfz56_3 := blk_frozen BK110.out 3; have hfz56_4 := blk_frozen BK110.out 4; have hfz56_5 := blk_frozen BK110.out 5))) | ((with_reducible refine gate_callee (f := 27) rfl ?_); refine goesL_ (some 59) rfl rfl Try.func27 (by kernel_rfl) rfl #[.int .i64 x7_1, .int .i64 t114] rfl (by (try simp only [List.map_toArray, List.map_cons, List.map_nil]); first | done | rfl | (simp only [List.length_drop, List.length_take]; rfl)) ?_; (with_reducible refine (types_up.calls x7_1 t114 t120 _ A51.out).mono ?_); rintro e w' ⟨rfl, ⟨nd, rfl⟩⟩; refine ⟨_, rfl, ?_⟩; (try (rw [drewN_self wc]; generalize hq_ : World.drewN wc _ = wc; have n0_ : Aside0 (Kd.R k35 35 wc w.heap.size (fun k_ => k_ ≠ gb110) u108001 x108001_1) := ⟨by rw [← hq_]; exact (by (with_reducible repeat (first | apply Kd.R_alloc | apply Kd.R_drewN | apply Kd.R_drew)); exact HO_108001.out)⟩; have n1_ : Aside0 (wc.heap[gb106]? = some (.cells #[.string x107000_1, .slice none 0 0, .int .i64 x107002_1] 24 (0, 0))) := ⟨by rw [← hq_]; exact (by (with_reducible repeat (first | refine blk_drewN ?_ _ | refine blk_drew ?_ | refine blk_alloc ?_ _)); exact BK106.out)⟩; have n2_ : Aside0 (wc.heap[gb107]? = some (.cells #[.string a0, u108001, .int .i64 0] 24 (0, 0))) := ⟨by rw [← hq_]; exact (by (with_reducible repeat (first | refine blk_drewN ?_ _ | refine blk_drew ?_ | refine blk_alloc ?_ _)); exact BK107.out)⟩; have n3_ : Aside0 (wc.heap[gb110]? = some (.cells #[.string ((rd_T35 l1 x22_1).f0), .int .i64 ((rd_T35 l1 x22_1).f1.f0), .int .i64 ((rd_T35 l1 x22_1).f1.f1), .int .i64 ((rd_T35 l1 x22_1).f1.f2), .int .i64 ((rd_T35 l1 x22_1).f1.f3), .int .i64 ((rd_T35 l1 x22_1).f2)] 35 (0, 0))) := ⟨by rw [← hq_]; exact (by (with_reducible repeat (first | refine blk_drewN ?_ _ | refine blk_drew ?_ | refine blk_alloc ?_ _)); exact BK110.out)⟩; have n4_ : Aside0 (Below w.heap.size w wc) := ⟨by rw [← hq_]; exact (by repeat (first | (with_reducible first | exact HB.out | apply below_alloc | apply pw_below_drewN | apply below_drew1 | refine below_set ?_ GE106.out | refine below_set ?_ GE107.out | refine below_set ?_ GE110.out) | exact HB.out))⟩; clear HO_108001 BK106 BK107 BK110 HB hq_; have HO_108001 := n0_; have BK106 := n1_; have BK107 := n2_; have BK110 := n3_; have HB := n4_; clear n0_ n1_ n2_ n3_ n4_)); (try (have hcz57_0 : wc.cell? ⟨gb110, 0, none⟩ = some (.string ((rd_T35 l1 x22_1).f0)) := (blk_cell BK110.out 0).trans rfl; have hcz57_1 : wc.cell? ⟨gb110, 1, none⟩ = some (.int .i64 ((rd_T35 l1 x22_1).f1.f0)) := (blk_cell BK110.out 1).trans rfl; have hcz57_2 : wc.cell? ⟨gb110, 2, none⟩ = some (.int .i64 ((rd_T35 l1 x22_1).f1.f1)) := (blk_cell BK110.out 2).trans rfl; have hcz57_3 : wc.cell? ⟨gb110, 3, none⟩ = some (.int .i64 ((rd_T35 l1 x22_1).f1.f2)) := (blk_cell BK110.out 3).trans rfl; have hcz57_4 : wc.cell? ⟨gb110, 4, none⟩ = some (.int .i64 ((rd_T35 l1 x22_1).f1.f3)) := (blk_cell BK110.out 4).trans rfl; have hcz57_5 : wc.cell? ⟨gb110, 5, none⟩ = some (.int .i64 ((rd_T35 l1 x22_1).f2)) := (blk_cell BK110.out 5).trans rfl; have hfz57_0 := blk_frozen BK110.out 0; have hfz57_1 := blk_frozen BK110.out 1; have hfz57_2 := blk_frozen BK110.out 2; have hfz57_3 := blk_frozen BK110.out 3; have hfz57_4 := blk_frozen BK110.out 4; have hfz57_5 := blk_frozen BK110.out 5)); have hnb58 := NB107_106.out; have hnc58 := NB106_107.out; have hcz59_0 : wc.cell? ⟨gb107, 0, none⟩ = some (.string a0) := (blk_cell BK107.out 0).trans rfl; have hcz59_1 : wc.cell? ⟨gb107, 1, none⟩ = some (u108001) := (blk_cell BK107.out 1).trans rfl; have hcz59_2 : wc.cell? ⟨gb107, 2, none⟩ = some (.int .i64 0) := (blk_cell BK107.out 2).trans rfl; have hfz59_0 := blk_frozen BK107.out 0; have hfz59_1 := blk_frozen BK107.out 1; have hfz59_2 := blk_frozen BK107.out 2) | ((with_reducible refine gate_builtin (b := .append) (xs := #[.tmp 66, .tmp 68]) rfl ?_); at_builtin; refine Kd.R_append k35 (w0 := w) w.heap.size rfl (.tmp 66) (.tmp 68) 22 35 (.agg #[(.string ⟨#[]⟩), (.int .i64 0), (.int .i64 0), (.int .i64 0), (.int .i64 0), (.int .i64 0)]) 56 rfl Try.underlying22 info35 rfl (by decide) (by omega) u108001 x108001_1 (⟨((rd_T35 l1 x22_1).f0), (⟨((rd_T35 l1 x22_1).f1.f0), ((rd_T35 l1 x22_1).f1.f1), ((rd_T35 l1 x22_1).f1.f2), ((rd_T35 l1 x22_1).f1.f3)⟩ : S33), t120⟩ : S35) [.string ((rd_T35 l1 x22_1).f0), .int .i64 ((rd_T35 l1 x22_1).f1.f0), .int .i64 ((rd_T35 l1 x22_1).f1.f1), .int .i64 ((rd_T35 l1 x22_1).f1.f2), .int .i64 ((rd_T35 l1 x22_1).f1.f3), .int .i64 t120] (fun k_ => k_ ≠ gb110) (fun _ => False) rfl (by first | (go_simp; done) | (go_simp; rfl)) ?aP (fun _ hk => hk.elim) ?aF ?aO ?aB ?aS ?aL ?_; (case aP => exact k35_mkM _ _ _ (⟨((rd_T35 l1 x22_1).f0), (⟨((rd_T35 l1 x22_1).f1.f0), ((rd_T35 l1 x22_1).f1.f1), ((rd_T35 l1 x22_1).f1.f2), ((rd_T35 l1 x22_1).f1.f3)⟩ : S33), t120⟩ : S35)); (case aB => exact (by repeat (first | (with_reducible first | exact HB.out | apply below_alloc | apply pw_below_drewN | apply below_drew1 | refine below_set ?_ GE106.out | refine below_set ?_ GE107.out | refine below_set ?_ GE110.out) | exact HB.out))); (case aF => exact (fun k_ hk => Kd.freshB (g := gb110) (o := .cells #[.string ((rd_T35 l1 x22_1).f0), .int .i64 ((rd_T35 l1 x22_1).f1.f0), .int .i64 ((rd_T35 l1 x22_1).f1.f1), .int .i64 ((rd_T35 l1 x22_1).f1.f2), .int .i64 ((rd_T35 l1 x22_1).f1.f3), .int .i64 t120] 35 (0, 0)) (by (with_reducible repeat (first | refine blk_drewN ?_ _ | refine blk_drew ?_ | refine blk_alloc ?_ _)); refine blk_put (cs := #[.string ((rd_T35 l1 x22_1).f0), .int .i64 ((rd_T35 l1 x22_1).f1.f0), .int .i64 ((rd_T35 l1 x22_1).f1.f1), .int .i64 ((rd_T35 l1 x22_1).f1.f2), .int .i64 ((rd_T35 l1 x22_1).f1.f3), .int .i64 ((rd_T35 l1 x22_1).f2)]) ?_ 5 _ rfl; (with_reducible repeat (first | refine blk_drewN ?_ _ | refine blk_drew ?_ | refine blk_alloc ?_ _)); exact BK110.out) k_ hk)); (case aO => exact (by (with_reducible repeat (first | apply Kd.R_alloc | apply Kd.R_drewN | apply Kd.R_drew)); exact Kd.R_mono (Kd.R_far (p := ⟨gb110, 5, none⟩) (Kd.R_mono HO_108001.out (fun k_ hk => (⟨hk, hk⟩ : _ ∧ k_ ≠ gb110))) (fun _ hk => hk.2) (.int .i64 t120)) (fun _ hk => hk.1))); (case aS => exact (below_size (by repeat (first | (with_reducible first | exact HB.out | apply below_alloc | apply pw_below_drewN | apply below_drew1 | refine below_set ?_ GE106.out | refine below_set ?_ GE107.out | refine below_set ?_ GE110.out) | exact HB.out)))); (case aL => have := LMc52.out; omega); intro v122 w60 ho hb hg hat; rw [← Ny121.out] at ho; have n0_ := Aside0.mk (blk_grown (g := gb106) (o := .cells #[.string x107000_1, .slice none 0 0, .int .i64 x107002_1] 24 (0, 0)) (by (with_reducible repeat (first | refine blk_drewN ?_ _ | refine blk_drew ?_ | refine blk_alloc ?_ _)); refine blk_far ?_ NB106_110.out _; (with_reducible repeat (first | refine blk_drewN ?_ _ | refine blk_drew ?_ | refine blk_alloc ?_ _)); exact BK106.out) hg (Kd.R_ne HO_108001.out BK106.out (by decide))); have n1_ := Aside0.mk (blk_grown (g := gb107) (o := .cells #[.string a0, u108001, .int .i64 0] 24 (0, 0)) (by (with_reducible repeat (first | refine blk_drewN ?_ _ | refine blk_drew ?_ | refine blk_alloc ?_ _)); refine blk_far ?_ NB107_110.out _; (with_reducible repeat (first | refine blk_drewN ?_ _ | refine blk_drew ?_ | refine blk_alloc ?_ _)); exact BK107.out) hg (Kd.R_ne HO_108001.out BK107.out (by decide))); have n2_ := Aside0.mk (blk_grown (g := gb110) (o := .cells #[.string ((rd_T35 l1 x22_1).f0), .int .i64 ((rd_T35 l1 x22_1).f1.f0), .int .i64 ((rd_T35 l1 x22_1).f1.f1), .int .i64 ((rd_T35 l1 x22_1).f1.f2), .int .i64 ((rd_T35 l1 x22_1).f1.f3), .int .i64 t120] 35 (0, 0)) (by (with_reducible repeat (first | refine blk_drewN ?_ _ | refine blk_drew ?_ | refine blk_alloc ?_ _)); refine blk_put (cs := #[.string ((rd_T35 l1 x22_1).f0), .int .i64 ((rd_T35 l1 x22_1).f1.f0), .int .i64 ((rd_T35 l1 x22_1).f1.f1), .int .i64 ((rd_T35 l1 x22_1).f1.f2), .int .i64 ((rd_T35 l1 x22_1).f1.f3), .int .i64 ((rd_T35 l1 x22_1).f2)]) ?_ 5 _ rfl; (with_reducible repeat (first | refine blk_drewN ?_ _ | refine blk_drew ?_ | refine blk_alloc ?_ _)); exact BK110.out) hg (Kd.R_away HO_108001.out (fun _ hk => hk))); have n3_ := Aside0.mk (hb); have n4_ := Aside0.mk (ho); clear BK106; clear BK107; clear BK110; clear HB; clear HO_108001; have BK106 := n0_; have BK107 := n1_; have BK110 := n2_; have HB := n3_; have HO123 := n4_; clear n0_ n1_ n2_ n3_ n4_; clear ho hb hg hat; obtain ⟨Ao61, co61, eo61⟩ := Kd.R_slice HO123.out; subst eo61; have hcz62_0 : w60.cell? ⟨gb107, 0, none⟩ = some (.string a0) := (blk_cell BK107.out 0).trans rfl; have hcz62_1 : w60.cell? ⟨gb107, 1, none⟩ = some (u108001) := (blk_cell BK107.out 1).trans rfl; have hcz62_2 : w60.cell? ⟨gb107, 2, none⟩ = some (.int .i64 0) := (blk_cell BK107.out 2).trans rfl; have hfz62_0 := blk_frozen BK107.out 0; have hfz62_1 := blk_frozen BK107.out 1; have hfz62_2 := blk_frozen BK107.out 2))
                        go_roundg kj13
                        case measure => have := HK1.out; have := HJ13.out; omega
                        case rel => exact ⟨(wrap64 (t120 + t111)), (ji50), (wrap64 (x22_1 + 1)), (x107000_1), (x107002_1), (y121), (.slice Ao61 y121.length co61), (by first | rfl | (simp; done) | (simp [*]; done)), (by first | rfl | (simp; done) | (simp only [← hji50] <;> (first | rfl | simp)) | (simp [*]; done)), (by first | rfl | (simp; done) | (simp [*]; done)), H', ⟨by have := HK1.out; have := HJ13.out; omega⟩, ⟨by (with_reducible repeat (first | apply Kd.R_alloc | apply Kd.R_drewN | apply Kd.R_drew)); exact Kd.R_mono (Kd.R_far (p := ⟨gb107, 1, none⟩) (Kd.R_types HO123.out BK107.out (by decide)) (fun _ hk => hk.2) (.slice Ao61 y121.length co61)) (fun _ hk => trivial)⟩, ⟨by (with_reducible repeat (first | refine blk_drewN ?_ _ | refine blk_drew ?_ | refine blk_alloc ?_ _)); refine blk_far ?_ NB106_107.out _; (with_reducible repeat (first | refine blk_drewN ?_ _ | refine blk_drew ?_ | refine blk_alloc ?_ _)); exact BK106.out⟩, ⟨by (with_reducible repeat (first | refine blk_drewN ?_ _ | refine blk_drew ?_ | refine blk_alloc ?_ _)); refine blk_put (cs := #[.string a0, u108001, .int .i64 0]) ?_ 1 _ rfl; (with_reducible repeat (first | refine blk_drewN ?_ _ | refine blk_drew ?_ | refine blk_alloc ?_ _)); exact BK107.out⟩, ⟨by repeat (first | (with_reducible first | exact HB.out | apply below_alloc | apply pw_below_drewN | apply below_drew1 | refine below_set ?_ GE106.out | refine below_set ?_ GE107.out | refine below_set ?_ GE110.out) | exact HB.out)⟩⟩
                      · rw [if_neg c52] at H
                        exact absurd H (by simp)
            · rw [if_neg c12] at H
              exact absurd H (by simp)
          · rw [if_neg c11] at H
            exact absurd H (by simp)
        · rw [if_neg c10] at H
          have c10b0 : decide (x22_1 < (l1.length : Int)) = false := decide_eq_false c10
          clear c10
          by_cases c63 : (l1.length : Int) = 0
          · rw [if_pos c63] at H
            have c63b0 : ((l1.length : Int) == 0) = true := beq_iff_eq.mpr c63
            have c63b1 : ((l1.length : Int) != 0) = false := bne_eq_false_iff_eq.mpr c63
            clear c63
            simp only [Option.some.injEq, Prod.mk.injEq] at H
            obtain ⟨rfl, rfl, rfl, rfl⟩ := H
            have hnb64 := NB106_107.out
            have hnc64 := NB107_106.out
            have hcz65_0 : wr.cell? ⟨gb106, 0, none⟩ = some (.string x107000_1) := (blk_cell BK106.out 0).trans rfl
            have hcz65_1 : wr.cell? ⟨gb106, 1, none⟩ = some (.slice none 0 0) := (blk_cell BK106.out 1).trans rfl
            have hcz65_2 : wr.cell? ⟨gb106, 2, none⟩ = some (.int .i64 x107002_1) := (blk_cell BK106.out 2).trans rfl
            have hfz65_0 := blk_frozen BK106.out 0
            have hfz65_1 := blk_frozen BK106.out 1
            have hfz65_2 := blk_frozen BK106.out 2
            go_wp2
            refine bodyPost_ret (results_ct rfl _ _ gb106 24 #[.string (⟨#[]⟩ : ByteArray), .slice none 0 0, .int .i64 0] (0, 0) _ rfl (by (with_reducible repeat (first | refine blk_drewN ?_ _ | refine blk_drew ?_ | refine blk_alloc ?_ _)); refine blk_put (cs := #[.string (⟨#[]⟩ : ByteArray), .slice none 0 0, .int .i64 x107002_1]) ?_ 2 _ rfl; (with_reducible repeat (first | refine blk_drewN ?_ _ | refine blk_drew ?_ | refine blk_alloc ?_ _)); refine blk_put (cs := #[.string (⟨#[]⟩ : ByteArray), .slice none 0 0, .int .i64 x107002_1]) ?_ 1 _ rfl; (with_reducible repeat (first | refine blk_drewN ?_ _ | refine blk_drew ?_ | refine blk_alloc ?_ _)); refine blk_put (cs := #[.string x107000_1, .slice none 0 0, .int .i64 x107002_1]) ?_ 0 _ rfl; (with_reducible repeat (first | refine blk_drewN ?_ _ | refine blk_drew ?_ | refine blk_alloc ?_ _)); exact BK106.out) Try.underlying24 rfl (by kernel_rfl)) rfl ?_
            exact ⟨_, by first | rfl | (simp [errW_none, errW_some] <;> rfl) | (simp [*, errW_none, errW_some] <;> rfl), by first | exact Kd.R_nil _ _ _ _ _ | exact Kd.N_nil _ _ _ _ _ | exact Kd.V_nil _ _ _ _ _ | exact Kd.Q_nil _ _ _ _ _ | exact Kd.S_nil _ _ _ _ _, by repeat (first | (with_reducible first | exact HB.out | apply below_alloc | apply pw_below_drewN | apply below_drew1 | refine below_set ?_ GE106.out | refine below_set ?_ GE107.out) | exact HB.out)⟩
          · rw [if_neg c63] at H
            have c63b0 : ((l1.length : Int) == 0) = false := beq_eq_false_iff_ne.mpr c63
            have c63b1 : ((l1.length : Int) != 0) = true := bne_iff_ne.mpr c63
            have c63b2 : ¬ (l1 = []) := fun h_ => c63 (by rw [h_]; rfl)
            replace H := Option.bind_eq_some_iff.mp H
            obtain ⟨t108, A660, H⟩ := H
            replace H : (some (a0, x108001_1, t108, 0)) = some (r1, r2, r3, r4) := H
            have A66 := Aside0.mk A660
            clear A660
            simp only [Option.some.injEq, Prod.mk.injEq] at H
            obtain ⟨rfl, rfl, rfl, rfl⟩ := H
            go_wp2_with (first | ((with_reducible refine gate_callee (f := 27) rfl ?_); refine goesL_ (some 78) rfl rfl Try.func27 (by kernel_rfl) rfl #[.int .i64 x7_1, .int .i64 x8_1] rfl (by (try simp only [List.map_toArray, List.map_cons, List.map_nil]); first | done | rfl | (simp only [List.length_drop, List.length_take]; rfl)) ?_; (with_reducible refine (types_up.calls x7_1 x8_1 t108 _ A66.out).mono ?_); rintro e w' ⟨rfl, ⟨nd, rfl⟩⟩; refine ⟨_, rfl, ?_⟩; (try (rw [drewN_self wr]; generalize hq_ : World.drewN wr _ = wr; have n0_ : Aside0 (Kd.R k35 35 wr w.heap.size (fun _ => True) u108001 x108001_1) := ⟨by rw [← hq_]; exact (by (with_reducible repeat (first | apply Kd.R_alloc | apply Kd.R_drewN | apply Kd.R_drew)); exact HO_108001.out)⟩; have n1_ : Aside0 (wr.heap[gb106]? = some (.cells #[.string x107000_1, .slice none 0 0, .int .i64 x107002_1] 24 (0, 0))) := ⟨by rw [← hq_]; exact (by (with_reducible repeat (first | refine blk_drewN ?_ _ | refine blk_drew ?_ | refine blk_alloc ?_ _)); exact BK106.out)⟩; have n2_ : Aside0 (wr.heap[gb107]? = some (.cells #[.string a0, u108001, .int .i64 0] 24 (0, 0))) := ⟨by rw [← hq_]; exact (by (with_reducible repeat (first | refine blk_drewN ?_ _ | refine blk_drew ?_ | refine blk_alloc ?_ _)); exact BK107.out)⟩; have n3_ : Aside0 (Below w.heap.size w wr) := ⟨by rw [← hq_]; exact (by repeat (first | (with_reducible first | exact HB.out | apply below_alloc | apply pw_below_drewN | apply below_drew1 | refine below_set ?_ GE106.out | refine below_set ?_ GE107.out) | exact HB.out))⟩; clear HO_108001 BK106 BK107 HB hq_; have HO_108001 := n0_; have BK106 := n1_; have BK107 := n2_; have HB := n3_; clear n0_ n1_ n2_ n3_)); have hnb67 := NB107_106.out; have hnc67 := NB106_107.out; have hcz68_0 : wr.cell? ⟨gb107, 0, none⟩ = some (.string a0) := (blk_cell BK107.out 0).trans rfl; have hcz68_1 : wr.cell? ⟨gb107, 1, none⟩ = some (u108001) := (blk_cell BK107.out 1).trans rfl; have hcz68_2 : wr.cell? ⟨gb107, 2, none⟩ = some (.int .i64 0) := (blk_cell BK107.out 2).trans rfl; have hfz68_0 := blk_frozen BK107.out 0; have hfz68_1 := blk_frozen BK107.out 1; have hfz68_2 := blk_frozen BK107.out 2; have hcz69_0 : wr.cell? ⟨gb106, 0, none⟩ = some (.string x107000_1) := (blk_cell BK106.out 0).trans rfl; have hcz69_1 : wr.cell? ⟨gb106, 1, none⟩ = some (.slice none 0 0) := (blk_cell BK106.out 1).trans rfl; have hcz69_2 : wr.cell? ⟨gb106, 2, none⟩ = some (.int .i64 x107002_1) := (blk_cell BK106.out 2).trans rfl; have hfz69_0 := blk_frozen BK106.out 0; have hfz69_1 := blk_frozen BK106.out 1; have hfz69_2 := blk_frozen BK106.out 2; obtain ⟨Ao70, co70, eo70⟩ := Kd.R_slice HO_108001.out; subst eo70))
            refine bodyPost_ret (results_ct rfl _ _ gb106 24 #[.string a0, .slice Ao70 x108001_1.length co70, .int .i64 t108] (0, 0) _ rfl (by (with_reducible repeat (first | refine blk_drewN ?_ _ | refine blk_drew ?_ | refine blk_alloc ?_ _)); refine blk_put (cs := #[.string a0, .slice Ao70 x108001_1.length co70, .int .i64 x107002_1]) ?_ 2 _ rfl; (with_reducible repeat (first | refine blk_drewN ?_ _ | refine blk_drew ?_ | refine blk_alloc ?_ _)); refine blk_put (cs := #[.string a0, .slice none 0 0, .int .i64 x107002_1]) ?_ 1 _ rfl; (with_reducible repeat (first | refine blk_drewN ?_ _ | refine blk_drew ?_ | refine blk_alloc ?_ _)); refine blk_put (cs := #[.string x107000_1, .slice none 0 0, .int .i64 x107002_1]) ?_ 0 _ rfl; (with_reducible repeat (first | refine blk_drewN ?_ _ | refine blk_drew ?_ | refine blk_alloc ?_ _)); refine blk_far ?_ NB106_107.out _; (with_reducible repeat (first | refine blk_drewN ?_ _ | refine blk_drew ?_ | refine blk_alloc ?_ _)); exact BK106.out) Try.underlying24 rfl (by kernel_rfl)) rfl ?_
            exact ⟨_, by first | rfl | (simp [errW_none, errW_some] <;> rfl) | (simp [*, errW_none, errW_some] <;> rfl), by (with_reducible repeat (first | apply Kd.R_alloc | apply Kd.R_drewN | apply Kd.R_drew)); exact Kd.R_mono (Kd.R_far (p := ⟨gb106, 2, none⟩) (Kd.R_far (p := ⟨gb106, 1, none⟩) (Kd.R_far (p := ⟨gb106, 0, none⟩) (Kd.R_far (p := ⟨gb107, 2, none⟩) (Kd.R_types (Kd.R_types HO_108001.out BK107.out (by decide)) BK106.out (by decide)) (fun _ hk => hk.1.2) (.int .i64 t108)) (fun _ hk => hk.2) (.string a0)) (fun _ hk => hk.2) (.slice Ao70 x108001_1.length co70)) (fun _ hk => hk.2) (.int .i64 t108)) (fun _ hk => trivial), by repeat (first | (with_reducible first | exact HB.out | apply below_alloc | apply pw_below_drewN | apply below_drew1 | refine below_set ?_ GE106.out | refine below_set ?_ GE107.out) | exact HB.out)⟩

end Go.Proofs.Ytalhlibaejmejaa.G
