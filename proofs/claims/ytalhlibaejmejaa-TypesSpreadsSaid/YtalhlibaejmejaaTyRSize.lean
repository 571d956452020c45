/- Sizes, as the reference has them. -/
import Derived.Test.YtalhlibaejmejaaGx0
import Derived.Test.YtalhlibaejmejaaGx7
import Derived.Test.YtalhlibaejmejaaGx13
import Derived.Test.YtalhlibaejmejaaGx14
import Derived.Test.YtalhlibaejmejaaGx15
import Derived.Test.YtalhlibaejmejaaGx16
import Derived.Test.YtalhlibaejmejaaTySize
namespace Go.Proofs.Ytalhlibaejmejaa.TyPure
open Go.RowKit Go.Proofs.Ytalhlibaejmejaa.G Go.Proofs.YtalhlibaejmejaaW.PrintWords Go.Proofs.YtalhlibaejmejaaW.PrintLast Go.Proofs.YtalhlibaejmejaaW.PrintMore
set_option linter.unusedVariables false
set_option linter.unusedSimpArgs false

theorem bytes_f (x : Int) : crucibleref10_Bytes.f x = some (if x = 3 then 1 else 4) := by unfold crucibleref10_Bytes.f; split <;> rfl
theorem scalar_f (e : Int) : crucibleref10_scalar.f e = some (types_Check.scal e) := by
  unfold crucibleref10_scalar.f types_Check.scal
  by_cases h1 : e = 1
  · subst h1; rfl
  · by_cases h2 : e = 2
    · subst h2; rfl
    · have a1 : (e == 1) = false := by simpa using h1
      have a2 : (e == 2) = false := by simpa using h2
      rw [if_neg h1, if_neg h2, a1, a2]
      rfl

theorem may_f (k : Nat) (a e l s n : Int) : crucibleref10_May.f (k + 2) a e l s n = some (types_Check.ok a e l s n) := by
  unfold crucibleref10_May.f
  by_cases h0 : a = 0
  · subst h0; simp [crucibleref10_May.j0, types_Check.ok]; by_cases y1 : e = 0 <;> by_cases y2 : l = 0 <;> simp [y1, y2]
  by_cases h1 : a = 1
  · subst h1; simp [crucibleref10_May.j0, types_Check.ok]; by_cases y1 : e = 0 <;> by_cases y2 : l = 0 <;> simp [y1, y2]
  by_cases h2 : a = 2
  · subst h2; simp [crucibleref10_May.j0, types_Check.ok]; by_cases y1 : e = 0 <;> by_cases y2 : l = 0 <;> simp [y1, y2]
  by_cases h3 : a = 3
  · subst h3; simp [crucibleref10_May.j0, types_Check.ok]; by_cases y1 : e = 0 <;> by_cases y2 : l = 0 <;> simp [y1, y2]
  by_cases h4 : a = 4
  · subst h4; simp [crucibleref10_May.j0, types_Check.ok, scalar_f]; cases types_Check.scal e <;> by_cases q1 : 1 ≤ l <;> by_cases q2 : l ≤ 1024 <;> simp [q1, q2]
  by_cases h5 : a = 5
  · subst h5; simp [crucibleref10_May.j0, crucibleref10_May.j1, types_Check.ok]; by_cases q : 0 ≤ s <;> by_cases y1 : e = 0 <;> by_cases y2 : l = 0 <;> simp [q, y1, y2]
  by_cases h6 : a = 6
  · subst h6; simp [crucibleref10_May.j0, crucibleref10_May.j1, types_Check.ok, scalar_f]; cases types_Check.scal e <;> by_cases y2 : l = 0 <;> simp [y2]
  by_cases h7 : a = 7
  · subst h7; simp [crucibleref10_May.j0, crucibleref10_May.j1, types_Check.ok]; by_cases q : 0 ≤ s <;> by_cases y1 : e = 0 <;> by_cases y2 : l = 0 <;> simp [q, y1, y2]
  · have z : (a == 3) = false := by simpa using h3
    have z7 : (a == 7) = false := by simpa using h7
    simp [crucibleref10_May.j0, crucibleref10_May.j1, types_Check.ok, h0, h1, h2, h3, h4, h5, h6, h7, z, z7]

theorem rsize_f (k : Nat) (a e l s : Int) (r : List S24) : crucibleref10_Size.f (k + 2) a e l s r = some (szOf a e l s r) := by
  unfold crucibleref10_Size.f szOf
  rw [may_f]
  simp only [Option.bind_some]
  by_cases h : types_Check.ok a e l s r.length = true
  · simp only [if_pos h, if_true]
    rcases ok_kind h with (rfl | rfl | rfl | rfl) | rfl | rfl | rfl | rfl
    · simp [crucibleref10_Size.j0]
    · simp [crucibleref10_Size.j0, bytes_f]
    · simp [crucibleref10_Size.j0, bytes_f]
    · simp [crucibleref10_Size.j0, bytes_f]
    · obtain ⟨_, h1, h2, _⟩ := arr_ok h
      have hw : wrap64 (l * (if e = 3 then 1 else 4)) = (if e = 3 then 1 else 4) * l := by rw [Int.mul_comm]; split <;> exact w64 (by omega) (by omega)
      simp [crucibleref10_Size.j0, bytes_f, hw]
    · simp [crucibleref10_Size.j0]
    · obtain ⟨h1, h2, _, _⟩ := rec_ok h
      simp [crucibleref10_Size.j0, h1, h2]
    · simp [crucibleref10_Size.j0]
  · simp [h]

theorem rsize_g {k : Nat} (hk : 2 ≤ k) (a e l s : Int) (r : List S24) : crucibleref10_Size.f k a e l s r = some (szOf a e l s r) := by
  obtain ⟨k, rfl⟩ : ∃ m, k = m + 2 := ⟨k - 2, by omega⟩
  exact rsize_f k a e l s r

end Go.Proofs.Ytalhlibaejmejaa.TyPure
