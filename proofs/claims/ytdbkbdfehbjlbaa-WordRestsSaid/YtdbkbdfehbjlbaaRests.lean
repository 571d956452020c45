/- Quotient times divisor and the rest are what was divided, with sign and without; the rest is below the divisor; a divisor 0 is trapped: of any two words. (The walk of the law alone; the operations are called by their contracts.) -/
import Derived.Test.YtdbkbdfehbjlbaaPWordRestsx1
import Derived.Test.YtdbkbdfehbjlbaaRestsPure
import Derived.OpenShut
namespace Go.Proofs.Ytdbkbdfehbjlbaa.Rests
open Go.RowKit Go.Proofs.Ytdbkbdfehbjlbaa.PWordRests Go.Proofs.YtdbkbdfehbjlbaaW.PrintWords Go.Proofs.YtdbkbdfehbjlbaaW.PrintLast Go.Proofs.YtdbkbdfehbjlbaaW.PrintMore
set_option linter.unusedVariables false
set_option linter.unusedSimpArgs false

theorem awake_some (k : Nat) : cruciblelaw01_awake.f (k + 1) = some true := by
  have h : word_divided.f 4 4294967289 2 = some 4294967293 := by decide +kernel
  simp [cruciblelaw01_awake.f, word_Alu.f, word_Alu.j0, h]

set_option maxHeartbeats 4000000 in
set_option maxRecDepth 100000 in
theorem zero (a : Int) (w : World) (A3 : Aside0 (word_Alu.f 1 4 a 0 = some (0, 1))) (A4 : Aside0 (word_Alu.f 1 6 a 0 = some (0, 1))) (A5 : Aside0 (word_Alu.f 1 5 a 0 = some (0, 1))) (A6 : Aside0 (word_Alu.f 1 7 a 0 = some (0, 1))) :
    Calls Try.prog 4 #[.int .u32 a, .int .u32 0] w fun e w' => e = .returned (.bool true) ∧ Drawn0 w w' := by
  go_enter Try.func4, Try.ntmps4
  go_wp2_with fail
  (with_reducible refine (word_Alu.calls 1 4 a 0 0 1 _ A3.out).mono ?_)
  rintro e w' ⟨rfl, ⟨nd, rfl⟩⟩
  go_wp2_with fail
  (with_reducible refine (word_Alu.calls 1 6 a 0 0 1 _ A4.out).mono ?_)
  rintro e w' ⟨rfl, ⟨nd, rfl⟩⟩
  go_wp2_with fail
  (with_reducible refine (word_Alu.calls 1 5 a 0 0 1 _ A5.out).mono ?_)
  rintro e w' ⟨rfl, ⟨nd, rfl⟩⟩
  go_wp2_with fail
  (with_reducible refine (word_Alu.calls 1 7 a 0 0 1 _ A6.out).mono ?_)
  rintro e w' ⟨rfl, ⟨nd, rfl⟩⟩
  go_wp2_with fail
  (with_reducible refine (cruciblelaw01_awake.calls 1 true _ (awake_some 0)).mono ?_)
  rintro e w' ⟨rfl, ⟨nd, rfl⟩⟩
  go_wp2
  go_ret
  exact ⟨rfl, by repeat (first | exact Drawn0.refl _ | apply Drawn0.step)⟩

set_option maxHeartbeats 4000000 in
set_option maxRecDepth 100000 in
theorem rest (a b q r v s : Int) (w : World) (A3 : Aside0 (word_Alu.f 1 4 a b = some (q, 0))) (A4 : Aside0 (word_Alu.f 1 6 a b = some (r, 0))) (A5 : Aside0 (word_Alu.f 1 5 a b = some (v, 0))) (A6 : Aside0 (word_Alu.f 1 7 a b = some (s, 0)))
    (z0 : (b == 0) = false) (z1 : (b != 0) = true) (c1 : ((q * b + r) % 4294967296 == a) = true) (c1' : ((q * b + r) % 4294967296 != a) = false) (c2 : ((v * b + s) % 4294967296 == a) = true) (c2' : ((v * b + s) % 4294967296 != a) = false)
    (c3 : decide (b ≤ s) = false) (c4 : decide ((wrap64 ((wrap64 (wrap32 r)) * (wrap64 (wrap32 r)))) < (wrap64 ((wrap64 (wrap32 b)) * (wrap64 (wrap32 b))))) = true)
    (c5 : ((wrap64 (wrap32 r)) == 0) = true ∨ (((wrap64 (wrap32 r)) == 0) = false ∧ ((decide ((wrap64 (wrap32 r)) < 0)) == (decide ((wrap32 a) < 0))) = true)) :
    Calls Try.prog 4 #[.int .u32 a, .int .u32 b] w fun e w' => e = .returned (.bool true) ∧ Drawn0 w w' := by
  rcases c5 with c5 | ⟨c5, c6⟩
  all_goals
    go_enter Try.func4, Try.ntmps4
    go_wp2_with fail
    (with_reducible refine (word_Alu.calls 1 4 a b q 0 _ A3.out).mono ?_)
    rintro e w' ⟨rfl, ⟨nd, rfl⟩⟩
    go_wp2_with fail
    (with_reducible refine (word_Alu.calls 1 6 a b r 0 _ A4.out).mono ?_)
    rintro e w' ⟨rfl, ⟨nd, rfl⟩⟩
    go_wp2_with fail
    (with_reducible refine (word_Alu.calls 1 5 a b v 0 _ A5.out).mono ?_)
    rintro e w' ⟨rfl, ⟨nd, rfl⟩⟩
    go_wp2_with fail
    (with_reducible refine (word_Alu.calls 1 7 a b s 0 _ A6.out).mono ?_)
    rintro e w' ⟨rfl, ⟨nd, rfl⟩⟩
    go_wp2_with fail
    (with_reducible refine (cruciblelaw01_awake.calls 1 true _ (awake_some 0)).mono ?_)
    rintro e w' ⟨rfl, ⟨nd, rfl⟩⟩
    go_wp2
    go_ret
    exact ⟨rfl, by repeat (first | exact Drawn0.refl _ | apply Drawn0.step)⟩

theorem trapped (a op : Int) (h : op = 4 ∨ op = 5 ∨ op = 6 ∨ op = 7) : word_Alu.f 1 op a 0 = some (0, 1) := by
  rcases h with rfl | rfl | rfl | rfl <;> simp [word_Alu.f, word_Alu.j0]

theorem walk (a b : Int) (w : World) (wa : (Lit.int .u32 a).wf = true) (wb : (Lit.int .u32 b).wf = true) :
    Calls Try.prog 4 #[.int .u32 a, .int .u32 b] w fun e w' => e = .returned (.bool true) ∧ Below w.heap.size w w' := by
  obtain ⟨a0, a1⟩ := Go.bounds_u32 wa
  obtain ⟨b0, b1⟩ := Go.bounds_u32 wb
  by_cases hb : b = 0
  · subst hb
    exact (zero a w ⟨trapped a 4 (by simp)⟩ ⟨trapped a 6 (by simp)⟩ ⟨trapped a 5 (by simp)⟩ ⟨trapped a 7 (by simp)⟩).mono fun e w' h => ⟨h.1, h.2.below⟩
  · obtain ⟨h1, h2, h3, h4, h5⟩ := RestsPure.all a b a0 a1 b0 b1 hb _ _ _ _ rfl rfl rfl rfl
    have hw : wrap64 (wrap32 b) ≠ 0 := by unfold wrap64 wrap32; omega
    refine (rest a b _ _ _ _ w ⟨?_⟩ ⟨?_⟩ ⟨?_⟩ ⟨?_⟩ (beq_eq_false_iff_ne.2 hb) (bne_iff_ne.2 hb) (beq_iff_eq.2 h1) (bne_eq_false_iff_eq.2 h1) (beq_iff_eq.2 h2) (bne_eq_false_iff_eq.2 h2) (decide_eq_false h3) (decide_eq_true h4) ?_).mono fun e w' h => ⟨h.1, h.2.below⟩
    · simp [word_Alu.f, word_Alu.j0, word_divided.f, hb, hw]
    · simp [word_Alu.f, word_Alu.j0, word_divided.f, hb, hw]
    · simp [word_Alu.f, word_Alu.j0, word_divided.f, hb, hw]
    · simp [word_Alu.f, word_Alu.j0, word_divided.f, hb, hw]
    · rcases h5 with h5 | ⟨h5, h6⟩
      · exact .inl (beq_iff_eq.2 h5)
      · refine .inr ⟨beq_eq_false_iff_ne.2 h5, ?_⟩
        rw [beq_iff_eq]
        exact decide_eq_decide.2 h6

end Go.Proofs.Ytdbkbdfehbjlbaa.Rests
