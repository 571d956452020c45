-- laid by given.sh
import Derived.Test.YtalhlibaejmejaaGx0
import Derived.Test.YtalhlibaejmejaaGx1
import Derived.Test.YtalhlibaejmejaaGx6
namespace Go.Proofs.Ytalhlibaejmejaa.G
open Go.RowKit Go.Proofs.YtalhlibaejmejaaW.PrintWords Go.Proofs.YtalhlibaejmejaaW.PrintLast Go.Proofs.YtalhlibaejmejaaW.PrintMore
attribute [local go_sem] max2_int min2_int max_two min_two max_three min_three max_four min_four   -- for this text's walks alone
set_option linter.unusedVariables false
set_option linter.unusedSimpArgs false

-- dev: YtalhlibaejmejaaPTypesLayoutsx1 Derived.Lib.Hide Derived.Test.YtalhlibaejmejaaPTypesLayoutsx0 Derived.StillTailTactics | YtalhlibaejmejaaPTypesLayoutsx3:types_scalar
/-! ### types_Check: function 18 (by hand) -/
def types_Check.scal (e : Int) : Bool := e == 1 || (e == 2 || e == 3)
def types_Check.ok (k e l s n : Int) : Bool :=
  if k = 0 ∨ k = 1 ∨ k = 2 ∨ k = 3 then e == 0 && (l == 0 && s == 0)
  else if k = 4 then types_Check.scal e && (decide (l ≥ 1) && (decide (l ≤ 1024) && s == 0))
  else if k = 6 then types_Check.scal e && (l == 0 && s == 0)
  else if k = 5 ∨ k = 7 then decide (s ≥ 0) && (decide (s < n) && (e == 0 && l == 0))
  else false
def types_Check.f (a0_0 : Int) (a0_1 : Int) (a0_2 : Int) (a0_3 : Int) (a1 : Int) : Option (Int) := some (if types_Check.ok a0_0 a0_1 a0_2 a0_3 a1 then 0 else 1)
theorem types_Check.scalar (e : Int) (w : World) : Calls Try.prog 34 #[.int .i64 e] w fun e' w' => e' = .returned (.bool (types_Check.scal e)) ∧ Below w.heap.size w w' := by
  refine (types_scalar.calls e (types_Check.scal e) w ?_).mono fun e' w' h => ⟨h.1, h.2.below⟩
  unfold types_scalar.f types_Check.scal
  by_cases h1 : e = 1
  · subst h1; rfl
  · by_cases h2 : e = 2
    · subst h2; rfl
    · have a1 : (e == 1) = false := by simpa using h1
      have a2 : (e == 2) = false := by simpa using h2
      rw [if_neg h1, if_neg h2, a1, a2]
      rfl
theorem types_Check.bcell {W w1 : World} (hb : Below W.heap.size W w1) : (∀ b o, b < W.heap.size → w1.cell? ⟨b, o, none⟩ = W.cell? ⟨b, o, none⟩) ∧ (∀ b o, b < W.heap.size → w1.frozen? ⟨b, o, none⟩ = W.frozen? ⟨b, o, none⟩) :=
  ⟨fun b o h => hb.cell (p := ⟨b, o, none⟩) h, fun b o h => hb.frozen (p := ⟨b, o, none⟩) h⟩
def types_Check.out (b : Bool) (w : World) (e' : Ending) (w' : World) : Prop := e' = .returned (.int .i64 (if b = true then 0 else 1)) ∧ Below w.heap.size w w'
set_option maxHeartbeats 8000000 in
set_option maxRecDepth 100000 in
theorem types_Check.plain (k : Int) (hk : k = 0 ∨ k = 1 ∨ k = 2 ∨ k = 3) (e l s n : Int) (w : World) :
    Calls Try.prog 18 #[.agg #[.int .i64 k, .int .i64 e, .int .i64 l, .int .i64 s], .int .i64 n] w (types_Check.out (e == 0 && (l == 0 && s == 0)) w) := by
  have hu33 := Try.underlying33
  have hq := fun (w : World) => eqA33 0 w 0 0 e 0 l 0 s 0
  rcases hk with rfl | rfl | rfl | rfl
  all_goals
    go_enter Try.func18, Try.ntmps18
    go_wp2
    all_goals (go_ret; refine ⟨?_, below_alloc (below_alloc (Below.refl _ _) _) _⟩; first | (show Ending.returned (.int .i64 0) = _; simp [*]; done) | (show Ending.returned (.int .i64 1) = _; simp [*]; done) | (show Ending.returned (.int .i64 1) = _; simp [*]; omega))
set_option maxHeartbeats 8000000 in
set_option maxRecDepth 100000 in
theorem types_Check.lists (k : Int) (hk : k = 4 ∨ k = 6) (e l s n : Int) (w : World) :
    Calls Try.prog 18 #[.agg #[.int .i64 k, .int .i64 e, .int .i64 l, .int .i64 s], .int .i64 n] w (types_Check.out (types_Check.ok k e l s n) w) := by
  have hu33 := Try.underlying33
  have hA : Aside0 (types_Check.ok 4 e l s n = (types_Check.scal e && (decide (l ≥ 1) && (decide (l ≤ 1024) && s == 0)))) := ⟨by simp [types_Check.ok]⟩
  have hR : Aside0 (types_Check.ok 6 e l s n = (types_Check.scal e && (l == 0 && s == 0))) := ⟨by simp [types_Check.ok]⟩
  obtain ⟨b, hb⟩ : ∃ b, types_Check.scal e = b := ⟨_, rfl⟩
  have hb' := Aside0.mk hb; clear hb
  rcases hk with rfl | rfl
  · rw [hA.out, hb'.out]
    cases b
    all_goals cases hs : (s == 0)
    all_goals
      go_enter Try.func18, Try.ntmps18
      go_wp2_with ((with_reducible refine (types_Check.scalar e _).mono ?_); rintro e1 w1 ⟨rfl, hb1⟩; have hB := Aside0.mk hb1; obtain ⟨hc, hf⟩ := types_Check.bcell hb1; clear hb1; rw [hb'.out])
      all_goals (go_ret; refine ⟨?_, below_step (below_alloc (below_alloc (Below.refl _ _) _) _) hB.out⟩; first | (show Ending.returned (.int .i64 0) = _; simp [*]; done) | (show Ending.returned (.int .i64 1) = _; simp [*]; done) | (show Ending.returned (.int .i64 1) = _; simp [*]; omega))
  · rw [hR.out, hb'.out]
    cases b
    all_goals cases hs : (s == 0)
    all_goals
      go_enter Try.func18, Try.ntmps18
      go_wp2_with ((with_reducible refine (types_Check.scalar e _).mono ?_); rintro e1 w1 ⟨rfl, hb1⟩; have hB := Aside0.mk hb1; obtain ⟨hc, hf⟩ := types_Check.bcell hb1; clear hb1; rw [hb'.out])
      all_goals (go_ret; refine ⟨?_, below_step (below_alloc (below_alloc (Below.refl _ _) _) _) hB.out⟩; first | (show Ending.returned (.int .i64 0) = _; simp [*]; done) | (show Ending.returned (.int .i64 1) = _; simp [*]; done) | (show Ending.returned (.int .i64 1) = _; simp [*]; omega))
set_option maxHeartbeats 8000000 in
set_option maxRecDepth 100000 in
theorem types_Check.recs (k : Int) (hk : k = 5 ∨ k = 7) (e l s n : Int) (w : World) :
    Calls Try.prog 18 #[.agg #[.int .i64 k, .int .i64 e, .int .i64 l, .int .i64 s], .int .i64 n] w (types_Check.out (decide (s ≥ 0) && (decide (s < n) && (e == 0 && l == 0))) w) := by
  rcases hk with rfl | rfl
  all_goals cases he : (e == 0)
  all_goals cases hs : (l == 0)
  all_goals
    go_enter Try.func18, Try.ntmps18
    go_wp2
    all_goals (go_ret; refine ⟨?_, below_alloc (below_alloc (Below.refl _ _) _) _⟩; first | (show Ending.returned (.int .i64 0) = _; simp [*]; done) | (show Ending.returned (.int .i64 1) = _; simp [*]; done) | (show Ending.returned (.int .i64 1) = _; simp [*]; omega))
set_option maxHeartbeats 8000000 in
set_option maxRecDepth 100000 in
theorem types_Check.none_ (k : Int) (h0 : (k == 0) = false) (h1 : (k == 1) = false) (h2 : (k == 2) = false) (h3 : (k == 3) = false) (h4 : (k == 4) = false) (h5 : (k == 5) = false) (h6 : (k == 6) = false) (h7 : (k == 7) = false) (e l s n : Int) (w : World) :
    Calls Try.prog 18 #[.agg #[.int .i64 k, .int .i64 e, .int .i64 l, .int .i64 s], .int .i64 n] w (types_Check.out false w) := by
  go_enter Try.func18, Try.ntmps18
  go_wp2
  go_ret
  exact ⟨rfl, below_alloc (below_alloc (Below.refl _ _) _) _⟩
theorem types_Check.calls (a0_0 : Int) (a0_1 : Int) (a0_2 : Int) (a0_3 : Int) (a1 : Int) (r : Int) (w : World) (h : types_Check.f a0_0 a0_1 a0_2 a0_3 a1 = some r) :
    Calls Try.prog 18 #[.agg #[.int .i64 a0_0, .int .i64 a0_1, .int .i64 a0_2, .int .i64 a0_3], .int .i64 a1] w fun e w' => e = .returned (.int .i64 r) ∧ Below w.heap.size w w' := by
  obtain rfl := Option.some.inj h
  clear h
  show Calls Try.prog 18 _ w (types_Check.out (types_Check.ok a0_0 a0_1 a0_2 a0_3 a1) w)
  by_cases p : a0_0 = 0 ∨ a0_0 = 1 ∨ a0_0 = 2 ∨ a0_0 = 3
  · have e : types_Check.ok a0_0 a0_1 a0_2 a0_3 a1 = (a0_1 == 0 && (a0_2 == 0 && a0_3 == 0)) := by unfold types_Check.ok; rw [if_pos p]
    rw [e]; exact types_Check.plain _ p _ _ _ _ _
  by_cases q : a0_0 = 4 ∨ a0_0 = 6
  · exact types_Check.lists _ q _ _ _ _ _
  by_cases s : a0_0 = 5 ∨ a0_0 = 7
  · have e : types_Check.ok a0_0 a0_1 a0_2 a0_3 a1 = (decide (a0_3 ≥ 0) && (decide (a0_3 < a1) && (a0_1 == 0 && a0_2 == 0))) := by unfold types_Check.ok; rw [if_neg p, if_neg (by omega), if_neg (by omega), if_pos s]
    rw [e]; exact types_Check.recs _ s _ _ _ _ _
  · have e : types_Check.ok a0_0 a0_1 a0_2 a0_3 a1 = false := by unfold types_Check.ok; rw [if_neg p, if_neg (by omega), if_neg (by omega), if_neg s]
    rw [e]
    have z : ∀ j : Int, a0_0 ≠ j → (a0_0 == j) = false := fun j h => by simpa using h
    exact types_Check.none_ _ (z _ (by omega)) (z _ (by omega)) (z _ (by omega)) (z _ (by omega)) (z _ (by omega)) (z _ (by omega)) (z _ (by omega)) (z _ (by omega)) _ _ _ _ _

end Go.Proofs.Ytalhlibaejmejaa.G
