-- laid by given.sh
import Derived.Test.YtiogfhmmepepdaaGx0
namespace Go.Proofs.Ytiogfhmmepepdaa.G
open Go.RowKit Go.Proofs.YtiogfhmmepepdaaW.PrintWords Go.Proofs.YtiogfhmmepepdaaW.PrintLast Go.Proofs.YtiogfhmmepepdaaW.PrintMore
attribute [local go_sem] max2_int min2_int max_two min_two max_three min_three max_four min_four   -- for this text's walks alone
set_option linter.unusedVariables false
set_option linter.unusedSimpArgs false

-- dev: YtiogfhmmepepdaaGx0 Derived.Lib.Hide |
/-! ### crucibleref02_imm: function 25 (by hand) -/
def crucibleref02_imm.Im (bits : Int) (sign : Bool) (lo hi : Int) : Prop := (bits = 0 ∧ sign = false ∧ lo = 0 ∧ hi = 0) ∨ (bits = 16 ∧ sign = true ∧ lo = -32768 ∧ hi = 32767) ∨ (bits = 16 ∧ sign = false ∧ lo = 0 ∧ hi = 65535) ∨ (bits = 24 ∧ sign = true ∧ lo = -8388608 ∧ hi = 8388607)

set_option maxHeartbeats 4000000 in
set_option maxRecDepth 100000 in
theorem crucibleref02_imm.imm (op d a b i bits lo hi : Int) (sd sa sb sign is v : Bool) (w : World) (h0 : -2147483648 ≤ i) (h1 : i ≤ 2147483647) (H : crucibleref02_imm.Im bits sign lo hi) (hv : (decide (lo ≤ i) && decide (i ≤ hi)) = v) :
    Calls Try.prog 25 #[.agg #[.int .i64 op, .int .i64 d, .int .i64 a, .int .i64 b, .int .i32 i], .agg #[.bool sd, .bool sa, .bool sb, .int .i64 bits, .bool sign, .bool is]] w
      fun e w' => e = .returned (.bool v) ∧ Below w.heap.size w w' := by
  subst hv
  rcases H with ⟨rfl, rfl, rfl, rfl⟩ | ⟨rfl, rfl, rfl, rfl⟩ | ⟨rfl, rfl, rfl, rfl⟩ | ⟨rfl, rfl, rfl, rfl⟩
  · by_cases c1 : i = 0
    · subst c1
      go_enter Try.func25, Try.ntmps25
      go_wp2
      go_ret
      exact ⟨by simp, by repeat (first | exact Below.refl _ _ | apply below_alloc)⟩
    · have e1 : (i == 0) = false := beq_eq_false_iff_ne.2 c1
      go_enter Try.func25, Try.ntmps25
      go_wp2
      go_ret
      exact ⟨by simp [e1]; omega, by repeat (first | exact Below.refl _ _ | apply below_alloc)⟩
  · by_cases c1 : -32768 ≤ i
    · by_cases c2 : i < 32768
      · go_enter Try.func25, Try.ntmps25
        go_wp2
        go_ret
        exact ⟨by first | (simp; done) | (simp; omega), by repeat (first | exact Below.refl _ _ | apply below_alloc)⟩
      · have c2' : decide (i < 32768) = false := by simpa using c2
        go_enter Try.func25, Try.ntmps25
        go_wp2
        go_ret
        exact ⟨by first | (simp; done) | (simp; omega), by repeat (first | exact Below.refl _ _ | apply below_alloc)⟩
    · have c1' : decide (-32768 ≤ i) = false := by simpa using c1
      go_enter Try.func25, Try.ntmps25
      go_wp2
      go_ret
      exact ⟨by first | (simp; done) | (simp; omega), by repeat (first | exact Below.refl _ _ | apply below_alloc)⟩
  · by_cases c1 : 0 ≤ i
    · by_cases c2 : i < 65536
      · go_enter Try.func25, Try.ntmps25
        go_wp2
        go_ret
        exact ⟨by first | (simp; done) | (simp; omega), by repeat (first | exact Below.refl _ _ | apply below_alloc)⟩
      · have c2' : decide (i < 65536) = false := by simpa using c2
        go_enter Try.func25, Try.ntmps25
        go_wp2
        go_ret
        exact ⟨by first | (simp; done) | (simp; omega), by repeat (first | exact Below.refl _ _ | apply below_alloc)⟩
    · have c1' : decide (0 ≤ i) = false := by simpa using c1
      go_enter Try.func25, Try.ntmps25
      go_wp2
      go_ret
      exact ⟨by first | (simp; done) | (simp; omega), by repeat (first | exact Below.refl _ _ | apply below_alloc)⟩
  · by_cases c1 : -8388608 ≤ i
    · by_cases c2 : i < 8388608
      · go_enter Try.func25, Try.ntmps25
        go_wp2
        go_ret
        exact ⟨by first | (simp; done) | (simp; omega), by repeat (first | exact Below.refl _ _ | apply below_alloc)⟩
      · have c2' : decide (i < 8388608) = false := by simpa using c2
        go_enter Try.func25, Try.ntmps25
        go_wp2
        go_ret
        exact ⟨by first | (simp; done) | (simp; omega), by repeat (first | exact Below.refl _ _ | apply below_alloc)⟩
    · have c1' : decide (-8388608 ≤ i) = false := by simpa using c1
      go_enter Try.func25, Try.ntmps25
      go_wp2
      go_ret
      exact ⟨by first | (simp; done) | (simp; omega), by repeat (first | exact Below.refl _ _ | apply below_alloc)⟩
def crucibleref02_imm.f (a0_0 : Int) (a0_1 : Int) (a0_2 : Int) (a0_3 : Int) (a0_4 : Int) (a1_0 : Bool) (a1_1 : Bool) (a1_2 : Bool) (a1_3 : Int) (a1_4 : Bool) (a1_5 : Bool) : Option (Bool) :=
  if -2147483648 ≤ a0_4 ∧ a0_4 ≤ 2147483647 then
    (if a1_3 = 0 ∧ a1_4 = false then some (decide (0 ≤ a0_4) && decide (a0_4 ≤ 0)) else
    if a1_3 = 16 ∧ a1_4 = true then some (decide (-32768 ≤ a0_4) && decide (a0_4 ≤ 32767)) else
    if a1_3 = 16 ∧ a1_4 = false then some (decide (0 ≤ a0_4) && decide (a0_4 ≤ 65535)) else
    if a1_3 = 24 ∧ a1_4 = true then some (decide (-8388608 ≤ a0_4) && decide (a0_4 ≤ 8388607)) else none)
  else none
theorem crucibleref02_imm.calls (a0_0 : Int) (a0_1 : Int) (a0_2 : Int) (a0_3 : Int) (a0_4 : Int) (a1_0 : Bool) (a1_1 : Bool) (a1_2 : Bool) (a1_3 : Int) (a1_4 : Bool) (a1_5 : Bool) (r : Bool) (w : World) (h : crucibleref02_imm.f a0_0 a0_1 a0_2 a0_3 a0_4 a1_0 a1_1 a1_2 a1_3 a1_4 a1_5 = some r) :
    Calls Try.prog 25 #[.agg #[.int .i64 a0_0, .int .i64 a0_1, .int .i64 a0_2, .int .i64 a0_3, .int .i32 a0_4], .agg #[.bool a1_0, .bool a1_1, .bool a1_2, .int .i64 a1_3, .bool a1_4, .bool a1_5]] w fun e w' => e = .returned (.bool r) ∧ Below w.heap.size w w' := by
  unfold crucibleref02_imm.f at h
  by_cases hr : -2147483648 ≤ a0_4 ∧ a0_4 ≤ 2147483647
  · rw [if_pos hr] at h
    by_cases h1 : a1_3 = 0 ∧ a1_4 = false
    · rw [if_pos h1] at h
      exact crucibleref02_imm.imm _ _ _ _ _ _ 0 0 _ _ _ _ _ _ w hr.1 hr.2 (.inl ⟨h1.1, h1.2, rfl, rfl⟩) (Option.some.inj h)
    · rw [if_neg h1] at h
      by_cases h2 : a1_3 = 16 ∧ a1_4 = true
      · rw [if_pos h2] at h
        exact crucibleref02_imm.imm _ _ _ _ _ _ _ _ _ _ _ _ _ _ w hr.1 hr.2 (.inr (.inl ⟨h2.1, h2.2, rfl, rfl⟩)) (Option.some.inj h)
      · rw [if_neg h2] at h
        by_cases h3 : a1_3 = 16 ∧ a1_4 = false
        · rw [if_pos h3] at h
          exact crucibleref02_imm.imm _ _ _ _ _ _ _ _ _ _ _ _ _ _ w hr.1 hr.2 (.inr (.inr (.inl ⟨h3.1, h3.2, rfl, rfl⟩))) (Option.some.inj h)
        · rw [if_neg h3] at h
          by_cases h4 : a1_3 = 24 ∧ a1_4 = true
          · rw [if_pos h4] at h
            exact crucibleref02_imm.imm _ _ _ _ _ _ _ _ _ _ _ _ _ _ w hr.1 hr.2 (.inr (.inr (.inr ⟨h4.1, h4.2, rfl, rfl⟩))) (Option.some.inj h)
          · rw [if_neg h4] at h; cases h
  · rw [if_neg hr] at h; cases h

end Go.Proofs.Ytiogfhmmepepdaa.G
