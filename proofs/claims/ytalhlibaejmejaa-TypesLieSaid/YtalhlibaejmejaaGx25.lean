-- laid by given.sh
import Derived.Test.YtalhlibaejmejaaGx0
namespace Go.Proofs.Ytalhlibaejmejaa.G
open Go.RowKit Go.Proofs.YtalhlibaejmejaaW.PrintWords Go.Proofs.YtalhlibaejmejaaW.PrintLast Go.Proofs.YtalhlibaejmejaaW.PrintMore
attribute [local go_sem] max2_int min2_int max_two min_two max_three min_three max_four min_four   -- for this text's walks alone
set_option linter.unusedVariables false
set_option linter.unusedSimpArgs false

/-! ### cruciblelaw10_sized: function 15 -/
def cruciblelaw10_sized.l0 : Nat → List (S24) → Int → Option (Bool)
  | 0, _, _ => none
  | k + 1, x0, x3 => if x3 < (x0.length : Int) then (if 0 ≤ x3 then (if ((rd_T24 x0 x3).f2) < 0 then (some false) else (if ((rd_T24 x0 x3).f2) > 65536 then (some false) else (cruciblelaw10_sized.l0 k x0 (wrap64 (x3 + 1))))) else (none)) else (some true)
def cruciblelaw10_sized.f (k : Nat) (l0 : List (S24)) : Option (Bool) := cruciblelaw10_sized.l0 k l0 0
theorem cruciblelaw10_sized.mono_l : ∀ k, (∀ y0 y1, LeO (cruciblelaw10_sized.l0 k y0 y1) (cruciblelaw10_sized.l0 (k + 1) y0 y1))
  | 0 => fun _ _ r h => by simp [cruciblelaw10_sized.l0] at h
  | k + 1 => by
    have ih0 := cruciblelaw10_sized.mono_l k
    · intro y0 y1
      unfold cruciblelaw10_sized.l0
      repeat' first
      | (with_reducible exact ih0 _ _)
      | (with_reducible exact LeO.refl _)
      | (with_reducible exact LeO.none _)
      | (with_reducible refine LeO.ite ?_ ?_)
      | (with_reducible refine LeO.bind ?_ (fun _ => ?_))
      | exact ih0 _ _
      | exact LeO.none _
      | refine LeO.ite ?_ ?_
      | refine LeO.bind ?_ (fun _ => ?_)
theorem cruciblelaw10_sized.mono : ∀ a0 k, LeO (cruciblelaw10_sized.f k a0) (cruciblelaw10_sized.f (k + 1) a0) := by
  intro a0 k
  have ih0 := cruciblelaw10_sized.mono_l k
  unfold cruciblelaw10_sized.f
  repeat' first
      | (with_reducible exact ih0 _ _)
      | (with_reducible exact LeO.refl _)
      | (with_reducible exact LeO.none _)
      | (with_reducible refine LeO.ite ?_ ?_)
      | (with_reducible refine LeO.bind ?_ (fun _ => ?_))
      | exact ih0 _ _
      | exact LeO.none _
      | refine LeO.ite ?_ ?_
      | refine LeO.bind ?_ (fun _ => ?_)
set_option maxHeartbeats 8000000 in
set_option maxRecDepth 100000 in
theorem cruciblelaw10_sized.calls (k : Nat) (A0 : Option Addr) (c0 : Nat) (l0 : List (S24)) (r : Bool) (w : World) (hr0 : Kd.C k24 w A0 l0.length l0) (hc0 : l0.length ≤ c0) (h : cruciblelaw10_sized.f k l0 = some r) :
    Calls Try.prog 15 #[.slice A0 l0.length c0] w fun e w' => e = .returned (.bool r) ∧ Drawn0 w w' := by
  have HR0 := Aside0.mk hr0
  have HC0 := Aside0.mk hc0
  clear hr0 hc0
  have H : (cruciblelaw10_sized.l0 k l0 0) = some r := h
  clear h
  have H' := Aside0.mk H
  clear H
  go_enter Try.func15, Try.ntmps15
  go_wp2
  go_loopg [3] k (fun kq v3 w' => ∃ (x3_1 : Int), v3 = .int .i64 x3_1 ∧ Aside0 (cruciblelaw10_sized.l0 kq l0 x3_1 = some r) ∧ Aside0 (kq ≤ k) ∧ Drawn0 w w')
  case atStart => exact ⟨(0), (by first | rfl | (simp; done) | (simp [*]; done)), H', ⟨Nat.le_refl _⟩, by repeat (first | exact Drawn0.refl _ | apply Drawn0.step)⟩
  case round =>
    clear H'
    try clear c1
    obtain ⟨x3_1, rfl, HA, HK1, ⟨m1, rfl⟩⟩ := hrel
    cases gk with
    | zero => exact absurd HA.out (by simp [cruciblelaw10_sized.l0])
    | succ k1 =>
      have H := HA.out
      clear HA
      simp only [cruciblelaw10_sized.l0] at H
      by_cases c2 : x3_1 < (l0.length : Int)
      · rw [if_pos c2] at H
        have c2b0 : decide (x3_1 < (l0.length : Int)) = true := decide_eq_true c2
        clear c2
        by_cases c3 : 0 ≤ x3_1
        · rw [if_pos c3] at H
          have c3b0 : decide (0 ≤ x3_1) = true := decide_eq_true c3
          clear c3
          by_cases c4 : ((rd_T24 l0 x3_1).f2) < 0
          · rw [if_pos c4] at H
            have c4b0 : decide (((rd_T24 l0 x3_1).f2) < 0) = true := decide_eq_true c4
            clear c4
            obtain rfl := Option.some.inj H
            have p209 : 0 ≤ (x3_1 : Int) := of_decide_eq_true (by first | (with_reducible assumption) | assumption)
            have q209 : x3_1 < (l0.length : Int) := of_decide_eq_true (by first | (with_reducible assumption) | assumption)
            obtain ⟨ad209, A209_1, c209_1, e209, hx209_0, hx209_1, hx209_2, hl209_1, hi209_1⟩ := at_T24 HR0.out x3_1 p209 q209
            cases e209
            have HR209_1 := Aside0.mk hi209_1
            have HC209_1 := Aside0.mk hl209_1
            clear hi209_1 hl209_1
            replace p209 := eq_true p209
            replace q209 := eq_true q209
            go_wp2
            go_ret
            exact ⟨by first | rfl | (simp; done) | (simp [*]; done), by repeat (first | exact Drawn0.refl _ | apply Drawn0.step)⟩
          · rw [if_neg c4] at H
            have c4b0 : decide (((rd_T24 l0 x3_1).f2) < 0) = false := decide_eq_false c4
            clear c4
            by_cases c5 : ((rd_T24 l0 x3_1).f2) > 65536
            · rw [if_pos c5] at H
              have c5b0 : decide (65536 < ((rd_T24 l0 x3_1).f2)) = true := decide_eq_true c5
              clear c5
              obtain rfl := Option.some.inj H
              have p209 : 0 ≤ (x3_1 : Int) := of_decide_eq_true (by first | (with_reducible assumption) | assumption)
              have q209 : x3_1 < (l0.length : Int) := of_decide_eq_true (by first | (with_reducible assumption) | assumption)
              obtain ⟨ad209, A209_1, c209_1, e209, hx209_0, hx209_1, hx209_2, hl209_1, hi209_1⟩ := at_T24 HR0.out x3_1 p209 q209
              cases e209
              have HR209_1 := Aside0.mk hi209_1
              have HC209_1 := Aside0.mk hl209_1
              clear hi209_1 hl209_1
              replace p209 := eq_true p209
              replace q209 := eq_true q209
              have p210 : 0 ≤ (x3_1 : Int) := of_decide_eq_true (by first | (with_reducible assumption) | assumption)
              have q210 : x3_1 < (l0.length : Int) := of_decide_eq_true (by first | (with_reducible assumption) | assumption)
              obtain ⟨ad210, A210_1, c210_1, e210, hx210_0, hx210_1, hx210_2, hl210_1, hi210_1⟩ := at_T24 HR0.out x3_1 p210 q210
              obtain rfl : ad209 = ad210 := (by injection e210)
              have HR210_1 := Aside0.mk hi210_1
              have HC210_1 := Aside0.mk hl210_1
              clear hi210_1 hl210_1
              replace p210 := eq_true p210
              replace q210 := eq_true q210
              have ea_ := Option.some.inj (hx209_1.symm.trans hx210_1)
              injection ea_ with ea_ en_ ec_
              subst ea_
              subst ec_
              clear en_
              go_wp2
              go_ret
              exact ⟨by first | rfl | (simp; done) | (simp [*]; done), by repeat (first | exact Drawn0.refl _ | apply Drawn0.step)⟩
            · rw [if_neg c5] at H
              have c5b0 : decide (65536 < ((rd_T24 l0 x3_1).f2)) = false := decide_eq_false c5
              clear c5
              have H' := Aside0.mk H
              clear H
              have p209 : 0 ≤ (x3_1 : Int) := of_decide_eq_true (by first | (with_reducible assumption) | assumption)
              have q209 : x3_1 < (l0.length : Int) := of_decide_eq_true (by first | (with_reducible assumption) | assumption)
              obtain ⟨ad209, A209_1, c209_1, e209, hx209_0, hx209_1, hx209_2, hl209_1, hi209_1⟩ := at_T24 HR0.out x3_1 p209 q209
              cases e209
              have HR209_1 := Aside0.mk hi209_1
              have HC209_1 := Aside0.mk hl209_1
              clear hi209_1 hl209_1
              replace p209 := eq_true p209
              replace q209 := eq_true q209
              have p210 : 0 ≤ (x3_1 : Int) := of_decide_eq_true (by first | (with_reducible assumption) | assumption)
              have q210 : x3_1 < (l0.length : Int) := of_decide_eq_true (by first | (with_reducible assumption) | assumption)
              obtain ⟨ad210, A210_1, c210_1, e210, hx210_0, hx210_1, hx210_2, hl210_1, hi210_1⟩ := at_T24 HR0.out x3_1 p210 q210
              obtain rfl : ad209 = ad210 := (by injection e210)
              have HR210_1 := Aside0.mk hi210_1
              have HC210_1 := Aside0.mk hl210_1
              clear hi210_1 hl210_1
              replace p210 := eq_true p210
              replace q210 := eq_true q210
              have ea_ := Option.some.inj (hx209_1.symm.trans hx210_1)
              injection ea_ with ea_ en_ ec_
              subst ea_
              subst ec_
              clear en_
              go_wp2
              go_roundg k1
              case measure => have := HK1.out; omega
              case rel => exact ⟨(wrap64 (x3_1 + 1)), (by first | rfl | (simp; done) | (simp [*]; done)), H', ⟨by have := HK1.out; omega⟩, by repeat (first | exact Drawn0.refl _ | apply Drawn0.step)⟩
        · rw [if_neg c3] at H
          exact absurd H (by simp)
      · rw [if_neg c2] at H
        have c2b0 : decide (x3_1 < (l0.length : Int)) = false := decide_eq_false c2
        clear c2
        obtain rfl := Option.some.inj H
        go_wp2
        go_ret
        exact ⟨by first | rfl | (simp; done) | (simp [*]; done), by repeat (first | exact Drawn0.refl _ | apply Drawn0.step)⟩

end Go.Proofs.Ytalhlibaejmejaa.G
