-- laid by given.sh
import Derived.Test.YtalhlibaejmejaaGx0
import Derived.Test.YtalhlibaejmejaaGx16
import Derived.Test.YtalhlibaejmejaaGx18
namespace Go.Proofs.Ytalhlibaejmejaa.G
open Go.RowKit Go.Proofs.YtalhlibaejmejaaW.PrintWords Go.Proofs.YtalhlibaejmejaaW.PrintLast Go.Proofs.YtalhlibaejmejaaW.PrintMore
attribute [local go_sem] max2_int min2_int max_two min_two max_three min_three max_four min_four   -- for this text's walks alone
set_option linter.unusedVariables false
set_option linter.unusedSimpArgs false

-- dev: YtalhlibaejmejaaGx7 Derived.Test.YtalhlibaejmejaaGx0 |
/-! ### crucibleref10_Spread: function 25 -/
def crucibleref10_Spread.l0 : Nat → List (S49) → List (S24) → List (S49) → Int → Bool → Int → Option ((List (S49)) × Int × Int)
  | 0, _, _, _, _, _, _ => none
  | k + 1, x0, x1, x7, x8, x9, x10 => if x10 < (x0.length : Int) then (if 0 ≤ x10 then ((crucibleref10_Size.f k ((rd_T49 x0 x10).f1.f0) ((rd_T49 x0 x10).f1.f1) ((rd_T49 x0 x10).f1.f2) ((rd_T49 x0 x10).f1.f3) x1).bind fun bt244 => (if bt244.2 = 0 then ((crucibleref10_up.f k x8 4).bind fun t246 => (if x9 = true then (crucibleref10_Spread.l0 k x0 x1 x7 t246 true (wrap64 (x10 + 1))) else (if bt244.1 > (wrap64 (65536 - t246)) then (crucibleref10_Spread.l0 k x0 x1 x7 t246 (decide (bt244.1 > (wrap64 (65536 - t246)))) (wrap64 (x10 + 1))) else (if x7.length < 2513169434916 then (crucibleref10_Spread.l0 k x0 x1 (x7 ++ [(⟨(rd_T49 x0 x10).f0, (⟨(rd_T49 x0 x10).f1.f0, (rd_T49 x0 x10).f1.f1, (rd_T49 x0 x10).f1.f2, (rd_T49 x0 x10).f1.f3⟩ : S33), t246⟩ : S49)]) (wrap64 (t246 + bt244.1)) (decide (bt244.1 > (wrap64 (65536 - t246)))) (wrap64 (x10 + 1))) else (none))))) else (some (([] : List (S49)), 0, bt244.2)))) else (none)) else (if x9 = true then (some (([] : List (S49)), 0, 3)) else ((crucibleref10_up.f k x8 4).bind fun t252 => (if t252 > 65536 then (some (([] : List (S49)), 0, 3)) else ((crucibleref10_up.f k x8 4).bind fun t253 => (some (x7, t253, 0))))))
def crucibleref10_Spread.f (k : Nat) (l0 : List (S49)) (l1 : List (S24)) : Option ((List (S49)) × Int × Int) := crucibleref10_Spread.l0 k l0 l1 ([] : List (S49)) 0 false 0
theorem crucibleref10_Spread.mono_l : ∀ k, (∀ y0 y1 y2 y3 y4 y5, LeO (crucibleref10_Spread.l0 k y0 y1 y2 y3 y4 y5) (crucibleref10_Spread.l0 (k + 1) y0 y1 y2 y3 y4 y5))
  | 0 => fun _ _ _ _ _ _ r h => by simp [crucibleref10_Spread.l0] at h
  | k + 1 => by
    have ih0 := crucibleref10_Spread.mono_l k
    · intro y0 y1 y2 y3 y4 y5
      unfold crucibleref10_Spread.l0
      repeat' first
      | (with_reducible exact ih0 _ _ _ _ _ _)
      | (with_reducible exact crucibleref10_Size.mono _ _ _ _ _ _)
      | (with_reducible exact crucibleref10_up.mono _ _ _)
      | (with_reducible exact LeO.refl _)
      | (with_reducible exact LeO.none _)
      | (with_reducible refine LeO.ite ?_ ?_)
      | (with_reducible refine LeO.bind ?_ (fun _ => ?_))
      | exact ih0 _ _ _ _ _ _
      | exact crucibleref10_Size.mono _ _ _ _ _ _
      | exact crucibleref10_up.mono _ _ _
      | exact LeO.none _
      | refine LeO.ite ?_ ?_
      | refine LeO.bind ?_ (fun _ => ?_)
theorem crucibleref10_Spread.mono : ∀ a0 a1 k, LeO (crucibleref10_Spread.f k a0 a1) (crucibleref10_Spread.f (k + 1) a0 a1) := by
  intro a0 a1 k
  have ih0 := crucibleref10_Spread.mono_l k
  unfold crucibleref10_Spread.f
  repeat' first
      | (with_reducible exact ih0 _ _ _ _ _ _)
      | (with_reducible exact crucibleref10_Size.mono _ _ _ _ _ _)
      | (with_reducible exact crucibleref10_up.mono _ _ _)
      | (with_reducible exact LeO.refl _)
      | (with_reducible exact LeO.none _)
      | (with_reducible refine LeO.ite ?_ ?_)
      | (with_reducible refine LeO.bind ?_ (fun _ => ?_))
      | exact ih0 _ _ _ _ _ _
      | exact crucibleref10_Size.mono _ _ _ _ _ _
      | exact crucibleref10_up.mono _ _ _
      | exact LeO.none _
      | refine LeO.ite ?_ ?_
      | refine LeO.bind ?_ (fun _ => ?_)
set_option maxHeartbeats 8000000 in
set_option maxRecDepth 100000 in
theorem crucibleref10_Spread.calls (k : Nat) (A0 : Option Addr) (c0 : Nat) (l0 : List (S49)) (A1 : Option Addr) (c1 : Nat) (l1 : List (S24)) (r1 : List (S49)) (r2 : Int) (r3 : Int) (w : World) (hr0 : Kd.C k49 w A0 l0.length l0) (hc0 : l0.length ≤ c0) (hr1 : Kd.C k24 w A1 l1.length l1) (hc1 : l1.length ≤ c1) (h : crucibleref10_Spread.f k l0 l1 = some (r1, r2, r3)) :
    Calls Try.prog 25 #[.slice A0 l0.length c0, .slice A1 l1.length c1] w fun e w' => ∃ v0_ : Value, e = .returned (.tuple #[v0_, .int .i64 r2, .int .i64 r3]) ∧ Kd.R k49 49 w' w.heap.size (fun _ => True) v0_ r1 ∧ Below w.heap.size w w' := by
  have hu33 := Try.underlying33
  have hu49 := Try.underlying49
  have HR0 := Aside0.mk hr0
  have HC0 := Aside0.mk hc0
  clear hr0 hc0
  have HR1 := Aside0.mk hr1
  have HC1 := Aside0.mk hc1
  clear hr1 hc1
  have HB := Aside0.mk (Below.refl w.heap.size w)
  have H : (crucibleref10_Spread.l0 k l0 l1 ([] : List (S49)) 0 false 0) = some (r1, r2, r3) := h
  clear h
  have H' := Aside0.mk H
  clear H
  go_enter Try.func25, Try.ntmps25
  go_wp2
  go_loopg [7, 8, 9, 10] k (fun kq v7 v8 v9 v10 w' => ∃ (x7_1 : List (S49)) (x8_1 : Int) (x9_1 : Bool) (x10_1 : Int), v8 = .int .i64 x8_1 ∧ v9 = .bool x9_1 ∧ v10 = .int .i64 x10_1 ∧ Aside0 (crucibleref10_Spread.l0 kq l0 l1 x7_1 x8_1 x9_1 x10_1 = some (r1, r2, r3)) ∧ Aside0 (kq ≤ k) ∧ Aside0 (Kd.R k49 49 w' w.heap.size (fun _ => True) v7 x7_1) ∧ Aside0 (Below w.heap.size w w'))
  case atStart => exact ⟨(([] : List (S49))), (0), (false), (0), (by first | rfl | (simp; done) | (simp [*]; done)), (by first | rfl | (simp; done) | (simp [*]; done)), (by first | rfl | (simp; done) | (simp [*]; done)), H', ⟨Nat.le_refl _⟩, ⟨by first | exact Kd.R_nil _ _ _ _ _ | exact Kd.N_nil _ _ _ _ _ | exact Kd.V_nil _ _ _ _ _ | exact Kd.Q_nil _ _ _ _ _ | exact Kd.S_nil _ _ _ _ _⟩, ⟨by repeat (first | (with_reducible first | exact HB.out | apply below_alloc | apply pw_below_drewN | apply below_drew1) | exact HB.out)⟩⟩
  case round =>
    clear H'
    try clear c1
    try clear c2
    try clear p2
    obtain ⟨x7_1, x8_1, x9_1, x10_1, rfl, rfl, rfl, HA, HK1, HO_7, HB⟩ := hrel
    cases gk with
    | zero => exact absurd HA.out (by simp [crucibleref10_Spread.l0])
    | succ k1 =>
      have H := HA.out
      clear HA
      simp only [crucibleref10_Spread.l0] at H
      by_cases c3 : x10_1 < (l0.length : Int)
      · rw [if_pos c3] at H
        have c3b0 : decide (x10_1 < (l0.length : Int)) = true := decide_eq_true c3
        clear c3
        by_cases c4 : 0 ≤ x10_1
        · rw [if_pos c4] at H
          have c4b0 : decide (0 ≤ x10_1) = true := decide_eq_true c4
          clear c4
          replace H := Option.bind_eq_some_iff.mp H
          obtain ⟨⟨t244, t245⟩, A50, H⟩ := H
          replace H : (if t245 = 0 then ((crucibleref10_up.f k1 x8_1 4).bind fun t246 => (if x9_1 = true then (crucibleref10_Spread.l0 k1 l0 l1 x7_1 t246 true (wrap64 (x10_1 + 1))) else (if t244 > (wrap64 (65536 - t246)) then (crucibleref10_Spread.l0 k1 l0 l1 x7_1 t246 (decide (t244 > (wrap64 (65536 - t246)))) (wrap64 (x10_1 + 1))) else (if x7_1.length < 2513169434916 then (crucibleref10_Spread.l0 k1 l0 l1 (x7_1 ++ [(⟨(rd_T49 l0 x10_1).f0, (⟨(rd_T49 l0 x10_1).f1.f0, (rd_T49 l0 x10_1).f1.f1, (rd_T49 l0 x10_1).f1.f2, (rd_T49 l0 x10_1).f1.f3⟩ : S33), t246⟩ : S49)]) (wrap64 (t246 + t244)) (decide (t244 > (wrap64 (65536 - t246)))) (wrap64 (x10_1 + 1))) else (none))))) else (some (([] : List (S49)), 0, t245))) = some (r1, r2, r3) := H
          have A5 := Aside0.mk A50
          clear A50
          by_cases c6 : t245 = 0
          · rw [if_pos c6] at H
            have c6b0 : (t245 == 0) = true := beq_iff_eq.mpr c6
            have c6b1 : (t245 != 0) = false := bne_eq_false_iff_eq.mpr c6
            clear c6
            replace H := Option.bind_eq_some_iff.mp H
            obtain ⟨t246, A70, H⟩ := H
            replace H : (if x9_1 = true then (crucibleref10_Spread.l0 k1 l0 l1 x7_1 t246 true (wrap64 (x10_1 + 1))) else (if t244 > (wrap64 (65536 - t246)) then (crucibleref10_Spread.l0 k1 l0 l1 x7_1 t246 (decide (t244 > (wrap64 (65536 - t246)))) (wrap64 (x10_1 + 1))) else (if x7_1.length < 2513169434916 then (crucibleref10_Spread.l0 k1 l0 l1 (x7_1 ++ [(⟨(rd_T49 l0 x10_1).f0, (⟨(rd_T49 l0 x10_1).f1.f0, (rd_T49 l0 x10_1).f1.f1, (rd_T49 l0 x10_1).f1.f2, (rd_T49 l0 x10_1).f1.f3⟩ : S33), t246⟩ : S49)]) (wrap64 (t246 + t244)) (decide (t244 > (wrap64 (65536 - t246)))) (wrap64 (x10_1 + 1))) else (none)))) = some (r1, r2, r3) := H
            have A7 := Aside0.mk A70
            clear A70
            by_cases c8 : x9_1 = true
            · subst c8
              have H1 : (crucibleref10_Spread.l0 k1 l0 l1 x7_1 t246 true (wrap64 (x10_1 + 1))) = some (r1, r2, r3) := by rw [if_pos rfl] at H; exact H
              clear H
              have H := H1
              clear H1
              have H' := Aside0.mk H
              clear H
              have p243 : 0 ≤ (x10_1 : Int) := of_decide_eq_true (by first | (with_reducible assumption) | assumption)
              have q243 : x10_1 < (l0.length : Int) := of_decide_eq_true (by first | (with_reducible assumption) | assumption)
              obtain ⟨ad243, e243, hx243_0, hx243_1, hx243_2, hx243_3, hx243_4, hx243_5⟩ := at_T49 HR0.out x10_1 p243 q243
              cases e243
              replace hx243_0 := (HB.out.cell (World.block_lt_of_cell? w _ hx243_0)).trans hx243_0
              replace hx243_1 := (HB.out.cell (World.block_lt_of_cell? w _ hx243_1)).trans hx243_1
              replace hx243_2 := (HB.out.cell (World.block_lt_of_cell? w _ hx243_2)).trans hx243_2
              replace hx243_3 := (HB.out.cell (World.block_lt_of_cell? w _ hx243_3)).trans hx243_3
              replace hx243_4 := (HB.out.cell (World.block_lt_of_cell? w _ hx243_4)).trans hx243_4
              replace hx243_5 := (HB.out.cell (World.block_lt_of_cell? w _ hx243_5)).trans hx243_5
              replace p243 := eq_true p243
              replace q243 := eq_true q243
              go_wp2_with (first | ((with_reducible refine gate_callee (f := 17) rfl ?_); refine goesL_ (some 27) rfl rfl Try.func17 (by kernel_rfl) rfl #[.agg #[.int .i64 ((rd_T49 l0 x10_1).f1.f0), .int .i64 ((rd_T49 l0 x10_1).f1.f1), .int .i64 ((rd_T49 l0 x10_1).f1.f2), .int .i64 ((rd_T49 l0 x10_1).f1.f3)], .slice A1 l1.length c1] rfl (by (try simp only [List.map_toArray, List.map_cons, List.map_nil]); first | done | rfl | (simp only [List.length_drop, List.length_take]; rfl)) ?_; (with_reducible refine (crucibleref10_Size.calls k1 ((rd_T49 l0 x10_1).f1.f0) ((rd_T49 l0 x10_1).f1.f1) ((rd_T49 l0 x10_1).f1.f2) ((rd_T49 l0 x10_1).f1.f3) _ _ l1 t244 t245 _ ?side1 ?side2 A5.out).mono ?_); (case side1 => repeat (first | exact (Kd.C_below HR1.out HB.out) | (with_reducible refine Kd.C_alloc ?_ _) | (with_reducible refine Kd.C_drewN ?_ _) | (with_reducible refine Kd.C_drew ?_))); (case side2 => exact HC1.out); rintro e w9 ⟨rfl, hb⟩; refine ⟨_, rfl, ?_⟩; have n0_ := Aside0.mk (Kd.R_below (by (with_reducible repeat (first | apply Kd.R_alloc | apply Kd.R_drewN | apply Kd.R_drew)); exact HO_7.out) hb); have n1_ := Aside0.mk (below_step (by repeat (first | (with_reducible first | exact HB.out | apply below_alloc | apply pw_below_drewN | apply below_drew1) | exact HB.out)) hb); clear HO_7; clear HB; have HO_7 := n0_; have HB := n1_; clear n0_ n1_; (try clear hb); (try clear hb2); (try clear hk); (try clear hi)) | ((with_reducible refine gate_callee (f := 29) rfl ?_); refine goesL_ (some 34) rfl rfl Try.func29 (by kernel_rfl) rfl #[.int .i64 x8_1, .int .i64 4] rfl (by (try simp only [List.map_toArray, List.map_cons, List.map_nil]); first | done | rfl | (simp only [List.length_drop, List.length_take]; rfl)) ?_; (with_reducible refine (crucibleref10_up.calls k1 x8_1 4 t246 _ A7.out).mono ?_); rintro e w' ⟨rfl, ⟨nd, rfl⟩⟩; refine ⟨_, rfl, ?_⟩))
              go_roundg k1
              case measure => have := HK1.out; omega
              case rel => exact ⟨(x7_1), (t246), (true), (wrap64 (x10_1 + 1)), (by first | rfl | (simp; done) | (simp [*]; done)), (by first | rfl | (simp; done) | (simp [*]; done)), (by first | rfl | (simp; done) | (simp [*]; done)), H', ⟨by have := HK1.out; omega⟩, ⟨by (with_reducible repeat (first | apply Kd.R_alloc | apply Kd.R_drewN | apply Kd.R_drew)); exact HO_7.out⟩, ⟨by repeat (first | (with_reducible first | exact HB.out | apply below_alloc | apply pw_below_drewN | apply below_drew1) | exact HB.out)⟩⟩
            · replace c8 := Bool.eq_false_iff.mpr c8
              subst c8
              have H1 : (if t244 > (wrap64 (65536 - t246)) then (crucibleref10_Spread.l0 k1 l0 l1 x7_1 t246 (decide (t244 > (wrap64 (65536 - t246)))) (wrap64 (x10_1 + 1))) else (if x7_1.length < 2513169434916 then (crucibleref10_Spread.l0 k1 l0 l1 (x7_1 ++ [(⟨(rd_T49 l0 x10_1).f0, (⟨(rd_T49 l0 x10_1).f1.f0, (rd_T49 l0 x10_1).f1.f1, (rd_T49 l0 x10_1).f1.f2, (rd_T49 l0 x10_1).f1.f3⟩ : S33), t246⟩ : S49)]) (wrap64 (t246 + t244)) (decide (t244 > (wrap64 (65536 - t246)))) (wrap64 (x10_1 + 1))) else (none))) = some (r1, r2, r3) := by rw [if_neg (show ¬ (false = true) by decide)] at H; exact H
              clear H
              have H := H1
              clear H1
              by_cases c10 : t244 > (wrap64 (65536 - t246))
              · rw [if_pos c10] at H
                have c10b0 : decide ((wrap64 (65536 - t246)) < t244) = true := decide_eq_true c10
                clear c10
                have H' := Aside0.mk H
                clear H
                have p243 : 0 ≤ (x10_1 : Int) := of_decide_eq_true (by first | (with_reducible assumption) | assumption)
                have q243 : x10_1 < (l0.length : Int) := of_decide_eq_true (by first | (with_reducible assumption) | assumption)
                obtain ⟨ad243, e243, hx243_0, hx243_1, hx243_2, hx243_3, hx243_4, hx243_5⟩ := at_T49 HR0.out x10_1 p243 q243
                cases e243
                replace hx243_0 := (HB.out.cell (World.block_lt_of_cell? w _ hx243_0)).trans hx243_0
                replace hx243_1 := (HB.out.cell (World.block_lt_of_cell? w _ hx243_1)).trans hx243_1
                replace hx243_2 := (HB.out.cell (World.block_lt_of_cell? w _ hx243_2)).trans hx243_2
                replace hx243_3 := (HB.out.cell (World.block_lt_of_cell? w _ hx243_3)).trans hx243_3
                replace hx243_4 := (HB.out.cell (World.block_lt_of_cell? w _ hx243_4)).trans hx243_4
                replace hx243_5 := (HB.out.cell (World.block_lt_of_cell? w _ hx243_5)).trans hx243_5
                replace p243 := eq_true p243
                replace q243 := eq_true q243
                go_wp2_with (first | ((with_reducible refine gate_callee (f := 17) rfl ?_); refine goesL_ (some 27) rfl rfl Try.func17 (by kernel_rfl) rfl #[.agg #[.int .i64 ((rd_T49 l0 x10_1).f1.f0), .int .i64 ((rd_T49 l0 x10_1).f1.f1), .int .i64 ((rd_T49 l0 x10_1).f1.f2), .int .i64 ((rd_T49 l0 x10_1).f1.f3)], .slice A1 l1.length c1] rfl (by (try simp only [List.map_toArray, List.map_cons, List.map_nil]); first | done | rfl | (simp only [List.length_drop, List.length_take]; rfl)) ?_; (with_reducible refine (crucibleref10_Size.calls k1 ((rd_T49 l0 x10_1).f1.f0) ((rd_T49 l0 x10_1).f1.f1) ((rd_T49 l0 x10_1).f1.f2) ((rd_T49 l0 x10_1).f1.f3) _ _ l1 t244 t245 _ ?side1 ?side2 A5.out).mono ?_); (case side1 => repeat (first | exact (Kd.C_below HR1.out HB.out) | (with_reducible refine Kd.C_alloc ?_ _) | (with_reducible refine Kd.C_drewN ?_ _) | (with_reducible refine Kd.C_drew ?_))); (case side2 => exact HC1.out); rintro e w11 ⟨rfl, hb⟩; refine ⟨_, rfl, ?_⟩; have n0_ := Aside0.mk (Kd.R_below (by (with_reducible repeat (first | apply Kd.R_alloc | apply Kd.R_drewN | apply Kd.R_drew)); exact HO_7.out) hb); have n1_ := Aside0.mk (below_step (by repeat (first | (with_reducible first | exact HB.out | apply below_alloc | apply pw_below_drewN | apply below_drew1) | exact HB.out)) hb); clear HO_7; clear HB; have HO_7 := n0_; have HB := n1_; clear n0_ n1_; (try clear hb); (try clear hb2); (try clear hk); (try clear hi)) | ((with_reducible refine gate_callee (f := 29) rfl ?_); refine goesL_ (some 34) rfl rfl Try.func29 (by kernel_rfl) rfl #[.int .i64 x8_1, .int .i64 4] rfl (by (try simp only [List.map_toArray, List.map_cons, List.map_nil]); first | done | rfl | (simp only [List.length_drop, List.length_take]; rfl)) ?_; (with_reducible refine (crucibleref10_up.calls k1 x8_1 4 t246 _ A7.out).mono ?_); rintro e w' ⟨rfl, ⟨nd, rfl⟩⟩; refine ⟨_, rfl, ?_⟩))
                go_roundg k1
                case measure => have := HK1.out; omega
                case rel => exact ⟨(x7_1), (t246), (decide (t244 > (wrap64 (65536 - t246)))), (wrap64 (x10_1 + 1)), (by first | rfl | (simp; done) | (simp [*]; done)), (by first | rfl | (simp; done) | (simp [*]; done)), (by first | rfl | (simp; done) | (simp [*]; done)), H', ⟨by have := HK1.out; omega⟩, ⟨by (with_reducible repeat (first | apply Kd.R_alloc | apply Kd.R_drewN | apply Kd.R_drew)); exact HO_7.out⟩, ⟨by repeat (first | (with_reducible first | exact HB.out | apply below_alloc | apply pw_below_drewN | apply below_drew1) | exact HB.out)⟩⟩
              · rw [if_neg c10] at H
                have c10b0 : decide ((wrap64 (65536 - t246)) < t244) = false := decide_eq_false c10
                clear c10
                by_cases c12 : x7_1.length < 2513169434916
                · rw [if_pos c12] at H
                  have LMc12 := Aside0.mk c12
                  clear c12
                  obtain ⟨y249, hy249⟩ : ∃ y_ : List (S49), y_ = (x7_1 ++ [(⟨(rd_T49 l0 x10_1).f0, (⟨(rd_T49 l0 x10_1).f1.f0, (rd_T49 l0 x10_1).f1.f1, (rd_T49 l0 x10_1).f1.f2, (rd_T49 l0 x10_1).f1.f3⟩ : S33), t246⟩ : S49)]) := ⟨_, rfl⟩
                  replace H : (crucibleref10_Spread.l0 k1 l0 l1 y249 (wrap64 (t246 + t244)) (decide (t244 > (wrap64 (65536 - t246)))) (wrap64 (x10_1 + 1))) = some (r1, r2, r3) := by first | (rw [hy249]; with_reducible exact H) | (have H2_ := (Option.bind_some _ _).symm.trans H; rw [hy249]; with_reducible exact H2_) | (have H2_ := (Option.bind_some _ _).symm.trans H; with_reducible exact H2_) | with_reducible exact H | (rw [hy249]; exact H) | exact H
                  have Ny249 := Aside0.mk hy249
                  clear hy249
                  have H' := Aside0.mk H
                  clear H
                  have p243 : 0 ≤ (x10_1 : Int) := of_decide_eq_true (by first | (with_reducible assumption) | assumption)
                  have q243 : x10_1 < (l0.length : Int) := of_decide_eq_true (by first | (with_reducible assumption) | assumption)
                  obtain ⟨ad243, e243, hx243_0, hx243_1, hx243_2, hx243_3, hx243_4, hx243_5⟩ := at_T49 HR0.out x10_1 p243 q243
                  cases e243
                  replace hx243_0 := (HB.out.cell (World.block_lt_of_cell? w _ hx243_0)).trans hx243_0
                  replace hx243_1 := (HB.out.cell (World.block_lt_of_cell? w _ hx243_1)).trans hx243_1
                  replace hx243_2 := (HB.out.cell (World.block_lt_of_cell? w _ hx243_2)).trans hx243_2
                  replace hx243_3 := (HB.out.cell (World.block_lt_of_cell? w _ hx243_3)).trans hx243_3
                  replace hx243_4 := (HB.out.cell (World.block_lt_of_cell? w _ hx243_4)).trans hx243_4
                  replace hx243_5 := (HB.out.cell (World.block_lt_of_cell? w _ hx243_5)).trans hx243_5
                  replace p243 := eq_true p243
                  replace q243 := eq_true q243
                  go_wp2_with (first | ((with_reducible refine gate_callee (f := 17) rfl ?_); refine goesL_ (some 27) rfl rfl Try.func17 (by kernel_rfl) rfl #[.agg #[.int .i64 ((rd_T49 l0 x10_1).f1.f0), .int .i64 ((rd_T49 l0 x10_1).f1.f1), .int .i64 ((rd_T49 l0 x10_1).f1.f2), .int .i64 ((rd_T49 l0 x10_1).f1.f3)], .slice A1 l1.length c1] rfl (by (try simp only [List.map_toArray, List.map_cons, List.map_nil]); first | done | rfl | (simp only [List.length_drop, List.length_take]; rfl)) ?_; (with_reducible refine (crucibleref10_Size.calls k1 ((rd_T49 l0 x10_1).f1.f0) ((rd_T49 l0 x10_1).f1.f1) ((rd_T49 l0 x10_1).f1.f2) ((rd_T49 l0 x10_1).f1.f3) _ _ l1 t244 t245 _ ?side1 ?side2 A5.out).mono ?_); (case side1 => repeat (first | exact (Kd.C_below HR1.out HB.out) | (with_reducible refine Kd.C_alloc ?_ _) | (with_reducible refine Kd.C_drewN ?_ _) | (with_reducible refine Kd.C_drew ?_))); (case side2 => exact HC1.out); rintro e w13 ⟨rfl, hb⟩; refine ⟨_, rfl, ?_⟩; have n0_ := Aside0.mk (Kd.R_below (by (with_reducible repeat (first | apply Kd.R_alloc | apply Kd.R_drewN | apply Kd.R_drew)); exact HO_7.out) hb); have n1_ := Aside0.mk (below_step (by repeat (first | (with_reducible first | exact HB.out | apply below_alloc | apply pw_below_drewN | apply below_drew1) | exact HB.out)) hb); clear HO_7; clear HB; have HO_7 := n0_; have HB := n1_; clear n0_ n1_; (try clear hb); (try clear hb2); (try clear hk); (try clear hi)) | ((with_reducible refine gate_callee (f := 29) rfl ?_); refine goesL_ (some 34) rfl rfl Try.func29 (by kernel_rfl) rfl #[.int .i64 x8_1, .int .i64 4] rfl (by (try simp only [List.map_toArray, List.map_cons, List.map_nil]); first | done | rfl | (simp only [List.length_drop, List.length_take]; rfl)) ?_; (with_reducible refine (crucibleref10_up.calls k1 x8_1 4 t246 _ A7.out).mono ?_); rintro e w' ⟨rfl, ⟨nd, rfl⟩⟩; refine ⟨_, rfl, ?_⟩; (try (rw [drewN_self w13]; generalize hq_ : World.drewN w13 _ = w13; have n0_ : Aside0 (Kd.R k49 49 w13 w.heap.size (fun _ => True) u7 x7_1) := ⟨by rw [← hq_]; exact (by (with_reducible repeat (first | apply Kd.R_alloc | apply Kd.R_drewN | apply Kd.R_drew)); exact HO_7.out)⟩; have n1_ : Aside0 (Below w.heap.size w w13) := ⟨by rw [← hq_]; exact (by repeat (first | (with_reducible first | exact HB.out | apply below_alloc | apply pw_below_drewN | apply below_drew1) | exact HB.out))⟩; clear HO_7 HB hq_; have HO_7 := n0_; have HB := n1_; clear n0_ n1_)); have p247 : 0 ≤ (x10_1 : Int) := of_decide_eq_true (by first | (with_reducible assumption) | assumption); have q247 : x10_1 < (l0.length : Int) := of_decide_eq_true (by first | (with_reducible assumption) | assumption); obtain ⟨ad247, e247, hx247_0, hx247_1, hx247_2, hx247_3, hx247_4, hx247_5⟩ := at_T49 HR0.out x10_1 p247 q247; obtain rfl : ad243 = ad247 := (by injection e247); replace hx247_0 := (HB.out.cell (World.block_lt_of_cell? w _ hx247_0)).trans hx247_0; replace hx247_1 := (HB.out.cell (World.block_lt_of_cell? w _ hx247_1)).trans hx247_1; replace hx247_2 := (HB.out.cell (World.block_lt_of_cell? w _ hx247_2)).trans hx247_2; replace hx247_3 := (HB.out.cell (World.block_lt_of_cell? w _ hx247_3)).trans hx247_3; replace hx247_4 := (HB.out.cell (World.block_lt_of_cell? w _ hx247_4)).trans hx247_4; replace hx247_5 := (HB.out.cell (World.block_lt_of_cell? w _ hx247_5)).trans hx247_5; replace p247 := eq_true p247; replace q247 := eq_true q247) | ((with_reducible refine gate_builtin (b := .append) (xs := #[.tmp 49, .tmp 51]) rfl ?_); at_builtin; (refine Kd.R_append k49 (w0 := w) w.heap.size rfl (.tmp 49) (.tmp 51) 46 49 (.agg #[(.string ⟨#[]⟩), (.int .i64 0), (.int .i64 0), (.int .i64 0), (.int .i64 0), (.int .i64 0)]) 56 rfl Try.underlying46 info49 rfl (by decide) (by omega) u7 x7_1 (⟨(rd_T49 l0 x10_1).f0, (⟨(rd_T49 l0 x10_1).f1.f0, (rd_T49 l0 x10_1).f1.f1, (rd_T49 l0 x10_1).f1.f2, (rd_T49 l0 x10_1).f1.f3⟩ : S33), t246⟩ : S49) [.string ((rd_T49 l0 x10_1).f0), .int .i64 ((rd_T49 l0 x10_1).f1.f0), .int .i64 ((rd_T49 l0 x10_1).f1.f1), .int .i64 ((rd_T49 l0 x10_1).f1.f2), .int .i64 ((rd_T49 l0 x10_1).f1.f3), .int .i64 t246] (fun k_ => k_ ≠ w13.heap.size) (fun _ => False) rfl (by first | (go_simp; done) | (go_simp; rfl)) ?aP (fun _ hk => hk.elim) ?aF ?aO ?aB ?aS ?aL ?_); (case aP => exact k49_mkM _ _ _ (⟨(rd_T49 l0 x10_1).f0, (⟨(rd_T49 l0 x10_1).f1.f0, (rd_T49 l0 x10_1).f1.f1, (rd_T49 l0 x10_1).f1.f2, (rd_T49 l0 x10_1).f1.f3⟩ : S33), t246⟩ : S49)); (case aB => exact (below_alloc HB.out _)); (case aF => exact (fun k_ hk => by simp at hk ⊢; omega)); (case aO => exact (Kd.R_mono (Kd.R_alloc (Kd.R_elderB HO_7.out _ (Nat.le_refl _)) _) (fun _ hk => hk.2))); (case aS => exact (below_size (below_alloc HB.out _))); (case aL => have := LMc12.out; omega); intro v250 w16 ho hb hg hat; rw [← Ny249.out] at ho; have n1_ := Aside0.mk (hb); have n2_ := Aside0.mk (ho); clear HB; clear HO_7; have HB := n1_; have HO251 := n2_; clear n1_ n2_; clear ho hb hg hat))
                  go_roundg k1
                  case measure => have := HK1.out; omega
                  case rel => exact ⟨(y249), (wrap64 (t246 + t244)), (decide (t244 > (wrap64 (65536 - t246)))), (wrap64 (x10_1 + 1)), (by first | rfl | (simp; done) | (simp [*]; done)), (by first | rfl | (simp; done) | (simp [*]; done)), (by first | rfl | (simp; done) | (simp [*]; done)), H', ⟨by have := HK1.out; omega⟩, ⟨by (with_reducible repeat (first | apply Kd.R_alloc | apply Kd.R_drewN | apply Kd.R_drew)); exact Kd.R_mono HO251.out (fun _ hk => trivial)⟩, ⟨by repeat (first | (with_reducible first | exact HB.out | apply below_alloc | apply pw_below_drewN | apply below_drew1) | exact HB.out)⟩⟩
                · rw [if_neg c12] at H
                  exact absurd H (by simp)
          · rw [if_neg c6] at H
            have c6b0 : (t245 == 0) = false := beq_eq_false_iff_ne.mpr c6
            have c6b1 : (t245 != 0) = true := bne_iff_ne.mpr c6
            simp only [Option.some.injEq, Prod.mk.injEq] at H
            obtain ⟨rfl, rfl, rfl⟩ := H
            have p243 : 0 ≤ (x10_1 : Int) := of_decide_eq_true (by first | (with_reducible assumption) | assumption)
            have q243 : x10_1 < (l0.length : Int) := of_decide_eq_true (by first | (with_reducible assumption) | assumption)
            obtain ⟨ad243, e243, hx243_0, hx243_1, hx243_2, hx243_3, hx243_4, hx243_5⟩ := at_T49 HR0.out x10_1 p243 q243
            cases e243
            replace hx243_0 := (HB.out.cell (World.block_lt_of_cell? w _ hx243_0)).trans hx243_0
            replace hx243_1 := (HB.out.cell (World.block_lt_of_cell? w _ hx243_1)).trans hx243_1
            replace hx243_2 := (HB.out.cell (World.block_lt_of_cell? w _ hx243_2)).trans hx243_2
            replace hx243_3 := (HB.out.cell (World.block_lt_of_cell? w _ hx243_3)).trans hx243_3
            replace hx243_4 := (HB.out.cell (World.block_lt_of_cell? w _ hx243_4)).trans hx243_4
            replace hx243_5 := (HB.out.cell (World.block_lt_of_cell? w _ hx243_5)).trans hx243_5
            replace p243 := eq_true p243
            replace q243 := eq_true q243
            go_wp2_with (first | ((with_reducible refine gate_callee (f := 17) rfl ?_); refine goesL_ (some 27) rfl rfl Try.func17 (by kernel_rfl) rfl #[.agg #[.int .i64 ((rd_T49 l0 x10_1).f1.f0), .int .i64 ((rd_T49 l0 x10_1).f1.f1), .int .i64 ((rd_T49 l0 x10_1).f1.f2), .int .i64 ((rd_T49 l0 x10_1).f1.f3)], .slice A1 l1.length c1] rfl (by (try simp only [List.map_toArray, List.map_cons, List.map_nil]); first | done | rfl | (simp only [List.length_drop, List.length_take]; rfl)) ?_; (with_reducible refine (crucibleref10_Size.calls k1 ((rd_T49 l0 x10_1).f1.f0) ((rd_T49 l0 x10_1).f1.f1) ((rd_T49 l0 x10_1).f1.f2) ((rd_T49 l0 x10_1).f1.f3) _ _ l1 t244 t245 _ ?side1 ?side2 A5.out).mono ?_); (case side1 => repeat (first | exact (Kd.C_below HR1.out HB.out) | (with_reducible refine Kd.C_alloc ?_ _) | (with_reducible refine Kd.C_drewN ?_ _) | (with_reducible refine Kd.C_drew ?_))); (case side2 => exact HC1.out); rintro e w17 ⟨rfl, hb⟩; refine ⟨_, rfl, ?_⟩; have n0_ := Aside0.mk (Kd.R_below (by (with_reducible repeat (first | apply Kd.R_alloc | apply Kd.R_drewN | apply Kd.R_drew)); exact HO_7.out) hb); have n1_ := Aside0.mk (below_step (by repeat (first | (with_reducible first | exact HB.out | apply below_alloc | apply pw_below_drewN | apply below_drew1) | exact HB.out)) hb); clear HO_7; clear HB; have HO_7 := n0_; have HB := n1_; clear n0_ n1_; (try clear hb); (try clear hb2); (try clear hk); (try clear hi)))
            go_ret3
            exact ⟨_, by first | rfl | (simp [errW_none, errW_some] <;> rfl) | (simp [*, errW_none, errW_some] <;> rfl), by first | exact Kd.R_nil _ _ _ _ _ | exact Kd.N_nil _ _ _ _ _ | exact Kd.V_nil _ _ _ _ _ | exact Kd.Q_nil _ _ _ _ _ | exact Kd.S_nil _ _ _ _ _, by repeat (first | (with_reducible first | exact HB.out | apply below_alloc | apply pw_below_drewN | apply below_drew1) | exact HB.out)⟩
        · rw [if_neg c4] at H
          exact absurd H (by simp)
      · rw [if_neg c3] at H
        have c3b0 : decide (x10_1 < (l0.length : Int)) = false := decide_eq_false c3
        clear c3
        by_cases c18 : x9_1 = true
        · subst c18
          have H1 : (some (([] : List (S49)), 0, 3)) = some (r1, r2, r3) := by rw [if_pos rfl] at H; exact H
          clear H
          have H := H1
          clear H1
          simp only [Option.some.injEq, Prod.mk.injEq] at H
          obtain ⟨rfl, rfl, rfl⟩ := H
          go_wp2
          go_ret3
          exact ⟨_, by first | rfl | (simp [errW_none, errW_some] <;> rfl) | (simp [*, errW_none, errW_some] <;> rfl), by first | exact Kd.R_nil _ _ _ _ _ | exact Kd.N_nil _ _ _ _ _ | exact Kd.V_nil _ _ _ _ _ | exact Kd.Q_nil _ _ _ _ _ | exact Kd.S_nil _ _ _ _ _, by repeat (first | (with_reducible first | exact HB.out | apply below_alloc | apply pw_below_drewN | apply below_drew1) | exact HB.out)⟩
        · replace c18 := Bool.eq_false_iff.mpr c18
          subst c18
          have H1 : ((crucibleref10_up.f k1 x8_1 4).bind fun t252 => (if t252 > 65536 then (some (([] : List (S49)), 0, 3)) else ((crucibleref10_up.f k1 x8_1 4).bind fun t253 => (some (x7_1, t253, 0))))) = some (r1, r2, r3) := by rw [if_neg (show ¬ (false = true) by decide)] at H; exact H
          clear H
          have H := H1
          clear H1
          replace H := Option.bind_eq_some_iff.mp H
          obtain ⟨t252, A190, H⟩ := H
          replace H : (if t252 > 65536 then (some (([] : List (S49)), 0, 3)) else ((crucibleref10_up.f k1 x8_1 4).bind fun t253 => (some (x7_1, t253, 0)))) = some (r1, r2, r3) := H
          have A19 := Aside0.mk A190
          clear A190
          by_cases c20 : t252 > 65536
          · rw [if_pos c20] at H
            have c20b0 : decide (65536 < t252) = true := decide_eq_true c20
            clear c20
            simp only [Option.some.injEq, Prod.mk.injEq] at H
            obtain ⟨rfl, rfl, rfl⟩ := H
            go_wp2_with (first | (go_at_call 29; (with_reducible refine (crucibleref10_up.calls k1 x8_1 4 t252 _ A19.out).mono ?_); rintro e w' ⟨rfl, ⟨nd, rfl⟩⟩))
            go_ret3
            exact ⟨_, by first | rfl | (simp [errW_none, errW_some] <;> rfl) | (simp [*, errW_none, errW_some] <;> rfl), by first | exact Kd.R_nil _ _ _ _ _ | exact Kd.N_nil _ _ _ _ _ | exact Kd.V_nil _ _ _ _ _ | exact Kd.Q_nil _ _ _ _ _ | exact Kd.S_nil _ _ _ _ _, by repeat (first | (with_reducible first | exact HB.out | apply below_alloc | apply pw_below_drewN | apply below_drew1) | exact HB.out)⟩
          · rw [if_neg c20] at H
            have c20b0 : decide (65536 < t252) = false := decide_eq_false c20
            clear c20
            replace H := Option.bind_eq_some_iff.mp H
            obtain ⟨t253, A210, H⟩ := H
            replace H : (some (x7_1, t253, 0)) = some (r1, r2, r3) := H
            have A21 := Aside0.mk A210
            clear A210
            simp only [Option.some.injEq, Prod.mk.injEq] at H
            obtain ⟨rfl, rfl, rfl⟩ := H
            go_wp2_with (first | (go_at_call 29; (with_reducible refine (crucibleref10_up.calls k1 x8_1 4 t252 _ A19.out).mono ?_); rintro e w' ⟨rfl, ⟨nd, rfl⟩⟩) | ((with_reducible refine gate_callee (f := 29) rfl ?_); refine goesL_ (some 64) rfl rfl Try.func29 (by kernel_rfl) rfl #[.int .i64 x8_1, .int .i64 4] rfl (by (try simp only [List.map_toArray, List.map_cons, List.map_nil]); first | done | rfl | (simp only [List.length_drop, List.length_take]; rfl)) ?_; (with_reducible refine (crucibleref10_up.calls k1 x8_1 4 t253 _ A21.out).mono ?_); rintro e w' ⟨rfl, ⟨nd, rfl⟩⟩; refine ⟨_, rfl, ?_⟩))
            go_ret3
            exact ⟨_, by first | rfl | (simp [errW_none, errW_some] <;> rfl) | (simp [*, errW_none, errW_some] <;> rfl), by (with_reducible repeat (first | apply Kd.R_alloc | apply Kd.R_drewN | apply Kd.R_drew)); exact HO_7.out, by repeat (first | (with_reducible first | exact HB.out | apply below_alloc | apply pw_below_drewN | apply below_drew1) | exact HB.out)⟩

end Go.Proofs.Ytalhlibaejmejaa.G
