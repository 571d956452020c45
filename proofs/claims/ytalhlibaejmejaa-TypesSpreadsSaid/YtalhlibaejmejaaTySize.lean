/- Plain laws of types: sizes, as the program has them. -/
import Derived.Test.YtalhlibaejmejaaGx0
import Derived.Test.YtalhlibaejmejaaGx7
import Derived.Test.YtalhlibaejmejaaGx8
import Derived.Test.YtalhlibaejmejaaGx9
namespace Go.Proofs.Ytalhlibaejmejaa.TyPure
open Go.RowKit Go.Proofs.Ytalhlibaejmejaa.G Go.Proofs.YtalhlibaejmejaaW.PrintWords Go.Proofs.YtalhlibaejmejaaW.PrintLast Go.Proofs.YtalhlibaejmejaaW.PrintMore
set_option linter.unusedVariables false
set_option linter.unusedSimpArgs false

theorem w64 {x : Int} (h0 : -9223372036854775808 ≤ x) (h1 : x ≤ 9223372036854775807) : wrap64 x = x := by unfold wrap64; omega

/-- A type's size, or why it has none. -/
def szOf (k e l s : Int) (r : List S24) : Int × Int :=
  if types_Check.ok k e l s r.length = true then
    if k = 1 ∨ k = 2 then (4, 0) else if k = 3 then (1, 0) else if k = 4 then ((if e = 3 then 1 else 4) * l, 0) else if k = 5 then ((rd_T24 r s).f2, 0) else (0, 1)
  else (0, 1)

theorem ok_kind {k e l s n : Int} (h : types_Check.ok k e l s n = true) : (k = 0 ∨ k = 1 ∨ k = 2 ∨ k = 3) ∨ k = 4 ∨ k = 6 ∨ k = 5 ∨ k = 7 := by
  unfold types_Check.ok at h
  by_cases h1 : k = 0 ∨ k = 1 ∨ k = 2 ∨ k = 3
  · exact .inl h1
  · rw [if_neg h1] at h
    by_cases h2 : k = 4
    · omega
    · rw [if_neg h2] at h
      by_cases h3 : k = 6
      · omega
      · rw [if_neg h3] at h
        by_cases h4 : k = 5 ∨ k = 7
        · omega
        · rw [if_neg h4] at h; cases h

theorem each_f (x : Int) : types_each.f x = some (if x = 3 then 1 else 4) := by unfold types_each.f; split <;> rfl

theorem arr_ok {e l s n : Int} (h : types_Check.ok 4 e l s n = true) : types_Check.scal e = true ∧ 1 ≤ l ∧ l ≤ 1024 ∧ s = 0 := by
  simpa [types_Check.ok, and_assoc] using h
theorem rec_ok {e l s n : Int} (h : types_Check.ok 5 e l s n = true) : 0 ≤ s ∧ s < n ∧ e = 0 ∧ l = 0 := by
  simpa [types_Check.ok, and_assoc] using h

theorem size_f (k : Nat) (a e l s : Int) (r : List S24) : types_Size.f (k + 1) a e l s r = some (szOf a e l s r) := by
  unfold types_Size.f types_Check.f szOf
  simp only [Option.bind_some]
  by_cases h : types_Check.ok a e l s r.length = true
  · simp only [if_pos h, if_true]
    rcases ok_kind h with (rfl | rfl | rfl | rfl) | rfl | rfl | rfl | rfl
    · simp [types_Size.j0]
    · simp [types_Size.j0, each_f]
    · simp [types_Size.j0, each_f]
    · simp [types_Size.j0, each_f]
    · obtain ⟨_, h1, h2, _⟩ := arr_ok h
      have hw : wrap64 ((if e = 3 then 1 else 4) * l) = (if e = 3 then 1 else 4) * l := by split <;> exact w64 (by omega) (by omega)
      simp [types_Size.j0, each_f, hw]
    · simp [types_Size.j0]
    · obtain ⟨h1, h2, _, _⟩ := rec_ok h
      simp [types_Size.j0, h1, h2]
    · simp [types_Size.j0]
  · simp [h]

theorem size_g {k : Nat} (hk : 1 ≤ k) (a e l s : Int) (r : List S24) : types_Size.f k a e l s r = some (szOf a e l s r) := by
  obtain ⟨k, rfl⟩ : ∃ m, k = m + 1 := ⟨k - 1, by omega⟩
  exact size_f k a e l s r

end Go.Proofs.Ytalhlibaejmejaa.TyPure
