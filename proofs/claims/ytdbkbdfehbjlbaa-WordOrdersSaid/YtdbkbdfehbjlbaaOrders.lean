/- Of two words just one of below, the same, above holds, with sign and without; what commutes does. (The walk of the law alone; the operations are called by their contracts.) -/
import Derived.Test.YtdbkbdfehbjlbaaPWordOrdersx1
import Derived.OpenShut
import Derived.Laws.BitsAllLaws
namespace Go.Proofs.Ytdbkbdfehbjlbaa.Orders
open Go.RowKit Go.Proofs.Ytdbkbdfehbjlbaa.PWordOrders Go.Proofs.YtdbkbdfehbjlbaaW.PrintWords Go.Proofs.YtdbkbdfehbjlbaaW.PrintLast Go.Proofs.YtdbkbdfehbjlbaaW.PrintMore
set_option linter.unusedVariables false
set_option linter.unusedSimpArgs false

theorem awake_some (k : Nat) : cruciblelaw01_awake.f (k + 1) = some true := by
  have h : word_divided.f 4 4294967289 2 = some 4294967293 := by decide +kernel
  simp [cruciblelaw01_awake.f, word_Alu.f, word_Alu.j0, h]

/-- The answers of the comparisons, one of five ways. -/
def Five (lt gt eq le ltu gtu ne : Int) : Prop :=
  (lt = 0 ∧ gt = 0 ∧ eq = 1 ∧ le = 1 ∧ ltu = 0 ∧ gtu = 0 ∧ ne = 0) ∨ (lt = 1 ∧ gt = 0 ∧ eq = 0 ∧ le = 1 ∧ ltu = 1 ∧ gtu = 0 ∧ ne = 1) ∨
  (lt = 1 ∧ gt = 0 ∧ eq = 0 ∧ le = 1 ∧ ltu = 0 ∧ gtu = 1 ∧ ne = 1) ∨ (lt = 0 ∧ gt = 1 ∧ eq = 0 ∧ le = 0 ∧ ltu = 1 ∧ gtu = 0 ∧ ne = 1) ∨
  (lt = 0 ∧ gt = 1 ∧ eq = 0 ∧ le = 0 ∧ ltu = 0 ∧ gtu = 1 ∧ ne = 1)

set_option maxHeartbeats 8000000 in
set_option maxRecDepth 100000 in
theorem rest (op a b lt gt eq le ltu gtu ne x t y u : Int) (c : Bool) (w : World) (H : Five lt gt eq le ltu gtu ne)
    (A1 : Aside0 (word_Alu.f 1 16 a b = some (lt, 0))) (A2 : Aside0 (word_Alu.f 1 16 b a = some (gt, 0))) (A3 : Aside0 (word_Alu.f 1 14 a b = some (eq, 0))) (A4 : Aside0 (word_Alu.f 1 18 a b = some (le, 0)))
    (A5 : Aside0 (word_Alu.f 1 17 a b = some (ltu, 0))) (A6 : Aside0 (word_Alu.f 1 17 b a = some (gtu, 0))) (A7 : Aside0 (word_Alu.f 1 15 a b = some (ne, 0)))
    (A8 : Aside0 (word_Alu.f 1 op a b = some (x, t))) (A9 : Aside0 (word_Alu.f 1 op b a = some (y, u))) (A10 : Aside0 (word_Commutes.f op = some c))
    (hc : c = false ∨ (c = true ∧ (x == y) = true ∧ (t == u) = true)) :
    Calls Try.prog 5 #[.int .i64 op, .int .u32 a, .int .u32 b] w fun e w' => e = .returned (.bool true) ∧ Drawn0 w w' := by
  rcases hc with rfl | ⟨rfl, hx, ht⟩ <;>
  rcases H with ⟨rfl, rfl, rfl, rfl, rfl, rfl, rfl⟩ | ⟨rfl, rfl, rfl, rfl, rfl, rfl, rfl⟩ | ⟨rfl, rfl, rfl, rfl, rfl, rfl, rfl⟩ | ⟨rfl, rfl, rfl, rfl, rfl, rfl, rfl⟩ | ⟨rfl, rfl, rfl, rfl, rfl, rfl, rfl⟩
  all_goals
    go_enter Try.func5, Try.ntmps5
    go_wp2_with fail
    (with_reducible refine (word_Alu.calls 1 16 a b _ 0 _ A1.out).mono ?_)
    rintro e w' ⟨rfl, ⟨nd, rfl⟩⟩
    go_wp2_with fail
    (with_reducible refine (word_Alu.calls 1 16 b a _ 0 _ A2.out).mono ?_)
    rintro e w' ⟨rfl, ⟨nd, rfl⟩⟩
    go_wp2_with fail
    (with_reducible refine (word_Alu.calls 1 14 a b _ 0 _ A3.out).mono ?_)
    rintro e w' ⟨rfl, ⟨nd, rfl⟩⟩
    go_wp2_with fail
    (with_reducible refine (word_Alu.calls 1 18 a b _ 0 _ A4.out).mono ?_)
    rintro e w' ⟨rfl, ⟨nd, rfl⟩⟩
    go_wp2_with fail
    (with_reducible refine (word_Alu.calls 1 17 a b _ 0 _ A5.out).mono ?_)
    rintro e w' ⟨rfl, ⟨nd, rfl⟩⟩
    go_wp2_with fail
    (with_reducible refine (word_Alu.calls 1 17 b a _ 0 _ A6.out).mono ?_)
    rintro e w' ⟨rfl, ⟨nd, rfl⟩⟩
    go_wp2_with fail
    (with_reducible refine (word_Alu.calls 1 15 a b _ 0 _ A7.out).mono ?_)
    rintro e w' ⟨rfl, ⟨nd, rfl⟩⟩
    go_wp2_with fail
    (with_reducible refine (word_Alu.calls 1 op a b x t _ A8.out).mono ?_)
    rintro e w' ⟨rfl, ⟨nd, rfl⟩⟩
    go_wp2_with fail
    (with_reducible refine (word_Alu.calls 1 op b a y u _ A9.out).mono ?_)
    rintro e w' ⟨rfl, ⟨nd, rfl⟩⟩
    go_wp2_with fail
    (with_reducible refine (word_Commutes.calls op _ _ A10.out).mono ?_)
    rintro e w' ⟨rfl, ⟨nd, rfl⟩⟩
    go_wp2_with fail
    (with_reducible refine (cruciblelaw01_awake.calls 1 true _ (awake_some 0)).mono ?_)
    rintro e w' ⟨rfl, ⟨nd, rfl⟩⟩
    go_wp2
    go_ret
    exact ⟨rfl, by repeat (first | exact Drawn0.refl _ | apply Drawn0.step)⟩

theorem truth_eq (b : Bool) : word_truth.f b = some (if b = true then 1 else 0) := by cases b <;> rfl

theorem alu16 (a b : Int) : word_Alu.f 1 16 a b = some (if decide (wrap32 a < wrap32 b) = true then 1 else 0, 0) := by simp [word_Alu.f, word_Alu.j0, word_compared.f, truth_eq]
theorem alu17 (a b : Int) : word_Alu.f 1 17 a b = some (if decide (a < b) = true then 1 else 0, 0) := by simp [word_Alu.f, word_Alu.j0, word_compared.f, truth_eq]
theorem alu18 (a b : Int) : word_Alu.f 1 18 a b = some (if decide (wrap32 a ≤ wrap32 b) = true then 1 else 0, 0) := by simp [word_Alu.f, word_Alu.j0, word_compared.f, truth_eq]
theorem alu14 (a b : Int) : word_Alu.f 1 14 a b = some (if (a == b) = true then 1 else 0, 0) := by simp [word_Alu.f, word_Alu.j0, word_compared.f, truth_eq]
theorem alu15 (a b : Int) : word_Alu.f 1 15 a b = some (if (a != b) = true then 1 else 0, 0) := by simp [word_Alu.f, word_Alu.j0, word_compared.f, truth_eq]

theorem alu8 (a b : Int) : word_Alu.f 1 8 a b = some (Go.bits .and .u32 a b, 0) := by simp [word_Alu.f, word_Alu.j0]
theorem alu9 (a b : Int) : word_Alu.f 1 9 a b = some (Go.bits .or .u32 a b, 0) := by simp [word_Alu.f, word_Alu.j0]
theorem alu10 (a b : Int) : word_Alu.f 1 10 a b = some (Go.bits .xor .u32 a b, 0) := by simp [word_Alu.f, word_Alu.j0]

theorem divided_some (a b c : Int) (h0 : 0 ≤ c) (h1 : c ≤ 4294967295) (hc : c ≠ 0) : ∃ r, word_divided.f a b c = some r := by
  have hw : wrap64 (wrap32 c) ≠ 0 := by unfold wrap64 wrap32; omega
  unfold word_divided.f
  rw [if_neg hc, if_neg hw]
  split
  · exact ⟨_, rfl⟩
  · split
    · exact ⟨_, rfl⟩
    · split <;> exact ⟨_, rfl⟩

theorem compared_some (a b c : Int) : ∃ x t, word_compared.f a b c = some (x, t) := by
  unfold word_compared.f
  simp only [truth_eq, Option.bind_some]
  repeat' split
  all_goals exact ⟨_, _, rfl⟩

theorem j0_some (op a b d : Int) (c : Bool) (hb0 : 0 ≤ b) (hb1 : b ≤ 4294967295) : ∃ x t, word_Alu.j0 1 op a b d c = some (x, t) := by
  have hm0 : 0 ≤ Int.tmod b 32 := by rw [Int.tmod_eq_emod_of_nonneg hb0]; omega
  obtain ⟨x, t, hx⟩ := compared_some op a b
  simp only [word_Alu.j0, if_pos hm0, hx, Option.bind_some]
  by_cases hc : c = true
  · rw [if_pos hc]
    by_cases hb : b = 0
    · exact ⟨0, 1, by rw [if_pos hb]⟩
    · obtain ⟨r, hr⟩ := divided_some op a b hb0 hb1 hb
      exact ⟨r, 0, by rw [if_neg hb, hr]; rfl⟩
  · rw [if_neg hc]
    repeat' split
    all_goals exact ⟨_, _, rfl⟩

theorem alu_some (op a b : Int) (hb0 : 0 ≤ b) (hb1 : b ≤ 4294967295) : ∃ x t, word_Alu.f 1 op a b = some (x, t) := by
  unfold word_Alu.f
  repeat' split
  all_goals first | exact ⟨_, _, rfl⟩ | exact j0_some _ _ _ _ _ hb0 hb1

/-- What commutes. -/
theorem commutes (op a b : Int) (h : word_Commutes.f op = some true) (a0 : 0 ≤ a) (a1 : a ≤ 4294967295) (b0 : 0 ≤ b) (b1 : b ≤ 4294967295) : word_Alu.f 1 op a b = word_Alu.f 1 op b a := by
  by_cases h1 : op = 1
  · subst h1; simp [word_Alu.f, Int.add_comm]
  by_cases h3 : op = 3
  · subst h3; simp [word_Alu.f, Int.mul_comm]
  by_cases h8 : op = 8
  · subst h8; rw [alu8, alu8, u32_and a b a0 (by omega) b0 (by omega), u32_and b a b0 (by omega) a0 (by omega), Nat.and_comm]
  by_cases h9 : op = 9
  · subst h9; rw [alu9, alu9, u32_or a b a0 (by omega) b0 (by omega), u32_or b a b0 (by omega) a0 (by omega), Nat.or_comm]
  by_cases h10 : op = 10
  · subst h10; rw [alu10, alu10, u32_xor a b a0 (by omega) b0 (by omega), u32_xor b a b0 (by omega) a0 (by omega), Nat.xor_comm]
  by_cases h14 : op = 14
  · subst h14; rw [alu14, alu14, Bool.beq_comm]
  by_cases h15 : op = 15
  · subst h15; rw [alu15, alu15, bne_comm]
  · simp [word_Commutes.f, h1, h3, h8, h9, h10, h14, h15] at h

theorem five (a b : Int) (a0 : 0 ≤ a) (a1 : a ≤ 4294967295) (b0 : 0 ≤ b) (b1 : b ≤ 4294967295) :
    Five (if decide (wrap32 a < wrap32 b) = true then 1 else 0) (if decide (wrap32 b < wrap32 a) = true then 1 else 0) (if (a == b) = true then 1 else 0) (if decide (wrap32 a ≤ wrap32 b) = true then 1 else 0)
      (if decide (a < b) = true then 1 else 0) (if decide (b < a) = true then 1 else 0) (if (a != b) = true then 1 else 0) := by
  unfold Five
  simp only [decide_eq_true_eq, beq_iff_eq, bne_iff_ne, ne_eq]
  by_cases h : a = b
  · subst h; simp
  · have hw : wrap32 a ≠ wrap32 b := by unfold wrap32; omega
    by_cases h1 : a < b <;> by_cases h2 : wrap32 a < wrap32 b
    · simp [h, h1, h2, show ¬ b < a by omega, show ¬ wrap32 b < wrap32 a by omega, show wrap32 a ≤ wrap32 b by omega]
    · simp [h, h1, h2, show ¬ b < a by omega, show wrap32 b < wrap32 a by omega, show ¬ wrap32 a ≤ wrap32 b by omega]
    · simp [h, h1, h2, show b < a by omega, show ¬ wrap32 b < wrap32 a by omega, show wrap32 a ≤ wrap32 b by omega]
    · simp [h, h1, h2, show b < a by omega, show wrap32 b < wrap32 a by omega, show ¬ wrap32 a ≤ wrap32 b by omega]

theorem commutes_some (a : Int) : ∃ r, word_Commutes.f a = some r := by
  unfold word_Commutes.f
  repeat' split
  all_goals exact ⟨_, rfl⟩

theorem walk (op a b : Int) (w : World) (wa : (Lit.int .u32 a).wf = true) (wb : (Lit.int .u32 b).wf = true) :
    Calls Try.prog 5 #[.int .i64 op, .int .u32 a, .int .u32 b] w fun e w' => e = .returned (.bool true) ∧ Below w.heap.size w w' := by
  obtain ⟨a0, a1⟩ := Go.bounds_u32 wa
  obtain ⟨b0, b1⟩ := Go.bounds_u32 wb
  obtain ⟨c, hc⟩ := commutes_some op
  obtain ⟨x, t, hx⟩ := alu_some op a b b0 b1
  obtain ⟨y, u, hy⟩ := alu_some op b a a0 a1
  refine (rest op a b _ _ _ _ _ _ _ x t y u c w (five a b a0 a1 b0 b1) ⟨alu16 a b⟩ ⟨alu16 b a⟩ ⟨alu14 a b⟩ ⟨alu18 a b⟩ ⟨alu17 a b⟩ ⟨alu17 b a⟩ ⟨alu15 a b⟩ ⟨hx⟩ ⟨hy⟩ ⟨hc⟩ ?_).mono fun e w' h => ⟨h.1, h.2.below⟩
  cases c with
  | false => exact .inl rfl
  | true =>
    have := commutes op a b hc a0 a1 b0 b1
    rw [hx, hy] at this
    simp only [Option.some.injEq, Prod.mk.injEq] at this
    exact .inr ⟨rfl, beq_iff_eq.2 this.1, beq_iff_eq.2 this.2⟩

end Go.Proofs.Ytdbkbdfehbjlbaa.Orders
