-- laid by given.sh
import Derived.Test.YtiogfhmmepepdaaGx0
namespace Go.Proofs.Ytiogfhmmepepdaa.G
open Go.RowKit Go.Proofs.YtiogfhmmepepdaaW.PrintWords Go.Proofs.YtiogfhmmepepdaaW.PrintLast Go.Proofs.YtiogfhmmepepdaaW.PrintMore
attribute [local go_sem] max2_int min2_int max_two min_two max_three min_three max_four min_four   -- for this text's walks alone
set_option linter.unusedVariables false
set_option linter.unusedSimpArgs false

/-! ### isa_within: function 22 -/
def isa_within.f (a0 : Int) (a1 : Int) : Option (Bool) := if (Go.bits .and .i64 a1 8) = 0 then (if (Go.bits .and .i64 a1 16) = 0 then (if (Go.bits .and .i64 a1 32) = 0 then (if (Go.bits .and .i64 a1 64) = 0 then (some (a0 == 0)) else (if a0 ≥ 1 then (some (decide (a0 ≤ 5))) else (some false))) else (if a0 ≥ (-8388608) then (some (decide (a0 < 8388608))) else (some false))) else (if a0 ≥ 0 then (some (decide (a0 < 65536))) else (some false))) else (if a0 ≥ (-32768) then (some (decide (a0 < 32768))) else (some false))
set_option maxHeartbeats 8000000 in
set_option maxRecDepth 100000 in
theorem isa_within.calls (a0 : Int) (a1 : Int) (r : Bool) (w : World) (h : isa_within.f a0 a1 = some r) :
    Calls Try.prog 22 #[.int .i32 a0, .int .i64 a1] w fun e w' => e = .returned (.bool r) ∧ Drawn0 w w' := by
  have H : (if (Go.bits .and .i64 a1 8) = 0 then (if (Go.bits .and .i64 a1 16) = 0 then (if (Go.bits .and .i64 a1 32) = 0 then (if (Go.bits .and .i64 a1 64) = 0 then (some (a0 == 0)) else (if a0 ≥ 1 then (some (decide (a0 ≤ 5))) else (some false))) else (if a0 ≥ (-8388608) then (some (decide (a0 < 8388608))) else (some false))) else (if a0 ≥ 0 then (some (decide (a0 < 65536))) else (some false))) else (if a0 ≥ (-32768) then (some (decide (a0 < 32768))) else (some false))) = some r := h
  clear h
  by_cases c3 : (Go.bits .and .i64 a1 8) = 0
  · rw [if_pos c3] at H
    have c3b0 : ((Go.bits .and .i64 a1 8) == 0) = true := beq_iff_eq.mpr c3
    have c3b1 : ((Go.bits .and .i64 a1 8) != 0) = false := bne_eq_false_iff_eq.mpr c3
    clear c3
    by_cases c4 : (Go.bits .and .i64 a1 16) = 0
    · rw [if_pos c4] at H
      have c4b0 : ((Go.bits .and .i64 a1 16) == 0) = true := beq_iff_eq.mpr c4
      have c4b1 : ((Go.bits .and .i64 a1 16) != 0) = false := bne_eq_false_iff_eq.mpr c4
      clear c4
      by_cases c5 : (Go.bits .and .i64 a1 32) = 0
      · rw [if_pos c5] at H
        have c5b0 : ((Go.bits .and .i64 a1 32) == 0) = true := beq_iff_eq.mpr c5
        have c5b1 : ((Go.bits .and .i64 a1 32) != 0) = false := bne_eq_false_iff_eq.mpr c5
        clear c5
        by_cases c6 : (Go.bits .and .i64 a1 64) = 0
        · rw [if_pos c6] at H
          have c6b0 : ((Go.bits .and .i64 a1 64) == 0) = true := beq_iff_eq.mpr c6
          have c6b1 : ((Go.bits .and .i64 a1 64) != 0) = false := bne_eq_false_iff_eq.mpr c6
          clear c6
          obtain rfl := Option.some.inj H
          go_enter Try.func22, Try.ntmps22
          go_wp2
          go_ret
          exact ⟨by first | rfl | (simp; done) | (simp [*]; done), by repeat (first | exact Drawn0.refl _ | apply Drawn0.step)⟩
        · rw [if_neg c6] at H
          have c6b0 : ((Go.bits .and .i64 a1 64) == 0) = false := beq_eq_false_iff_ne.mpr c6
          have c6b1 : ((Go.bits .and .i64 a1 64) != 0) = true := bne_iff_ne.mpr c6
          by_cases c7 : a0 ≥ 1
          · rw [if_pos c7] at H
            have c7b0 : decide (1 ≤ a0) = true := decide_eq_true c7
            clear c7
            obtain rfl := Option.some.inj H
            go_enter Try.func22, Try.ntmps22
            go_wp2
            go_ret
            exact ⟨by first | rfl | (simp; done) | (simp [*]; done), by repeat (first | exact Drawn0.refl _ | apply Drawn0.step)⟩
          · rw [if_neg c7] at H
            have c7b0 : decide (1 ≤ a0) = false := decide_eq_false c7
            clear c7
            obtain rfl := Option.some.inj H
            go_enter Try.func22, Try.ntmps22
            go_wp2
            go_ret
            exact ⟨by first | rfl | (simp; done) | (simp [*]; done), by repeat (first | exact Drawn0.refl _ | apply Drawn0.step)⟩
      · rw [if_neg c5] at H
        have c5b0 : ((Go.bits .and .i64 a1 32) == 0) = false := beq_eq_false_iff_ne.mpr c5
        have c5b1 : ((Go.bits .and .i64 a1 32) != 0) = true := bne_iff_ne.mpr c5
        by_cases c8 : a0 ≥ (-8388608)
        · rw [if_pos c8] at H
          have c8b0 : decide ((-8388608) ≤ a0) = true := decide_eq_true c8
          clear c8
          obtain rfl := Option.some.inj H
          go_enter Try.func22, Try.ntmps22
          go_wp2
          go_ret
          exact ⟨by first | rfl | (simp; done) | (simp [*]; done), by repeat (first | exact Drawn0.refl _ | apply Drawn0.step)⟩
        · rw [if_neg c8] at H
          have c8b0 : decide ((-8388608) ≤ a0) = false := decide_eq_false c8
          clear c8
          obtain rfl := Option.some.inj H
          go_enter Try.func22, Try.ntmps22
          go_wp2
          go_ret
          exact ⟨by first | rfl | (simp; done) | (simp [*]; done), by repeat (first | exact Drawn0.refl _ | apply Drawn0.step)⟩
    · rw [if_neg c4] at H
      have c4b0 : ((Go.bits .and .i64 a1 16) == 0) = false := beq_eq_false_iff_ne.mpr c4
      have c4b1 : ((Go.bits .and .i64 a1 16) != 0) = true := bne_iff_ne.mpr c4
      by_cases c9 : a0 ≥ 0
      · rw [if_pos c9] at H
        have c9b0 : decide (0 ≤ a0) = true := decide_eq_true c9
        clear c9
        obtain rfl := Option.some.inj H
        go_enter Try.func22, Try.ntmps22
        go_wp2
        go_ret
        exact ⟨by first | rfl | (simp; done) | (simp [*]; done), by repeat (first | exact Drawn0.refl _ | apply Drawn0.step)⟩
      · rw [if_neg c9] at H
        have c9b0 : decide (0 ≤ a0) = false := decide_eq_false c9
        clear c9
        obtain rfl := Option.some.inj H
        go_enter Try.func22, Try.ntmps22
        go_wp2
        go_ret
        exact ⟨by first | rfl | (simp; done) | (simp [*]; done), by repeat (first | exact Drawn0.refl _ | apply Drawn0.step)⟩
  · rw [if_neg c3] at H
    have c3b0 : ((Go.bits .and .i64 a1 8) == 0) = false := beq_eq_false_iff_ne.mpr c3
    have c3b1 : ((Go.bits .and .i64 a1 8) != 0) = true := bne_iff_ne.mpr c3
    by_cases c10 : a0 ≥ (-32768)
    · rw [if_pos c10] at H
      have c10b0 : decide ((-32768) ≤ a0) = true := decide_eq_true c10
      clear c10
      obtain rfl := Option.some.inj H
      go_enter Try.func22, Try.ntmps22
      go_wp2
      go_ret
      exact ⟨by first | rfl | (simp; done) | (simp [*]; done), by repeat (first | exact Drawn0.refl _ | apply Drawn0.step)⟩
    · rw [if_neg c10] at H
      have c10b0 : decide ((-32768) ≤ a0) = false := decide_eq_false c10
      clear c10
      obtain rfl := Option.some.inj H
      go_enter Try.func22, Try.ntmps22
      go_wp2
      go_ret
      exact ⟨by first | rfl | (simp; done) | (simp [*]; done), by repeat (first | exact Drawn0.refl _ | apply Drawn0.step)⟩

end Go.Proofs.Ytiogfhmmepepdaa.G
