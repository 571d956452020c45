/- The law of sizes. -/
import Derived.Test.YtalhlibaejmejaaGx0
import Derived.Test.YtalhlibaejmejaaGx6
import Derived.Test.YtalhlibaejmejaaGx7
import Derived.Test.YtalhlibaejmejaaGx17
import Derived.Test.YtalhlibaejmejaaGx27
import Derived.Test.YtalhlibaejmejaaGx28
import Derived.Test.YtalhlibaejmejaaGx29
import Derived.Test.YtalhlibaejmejaaGx30
import Derived.Test.YtalhlibaejmejaaGx31
import Derived.Test.YtalhlibaejmejaaTyRSize
import Derived.Test.YtalhlibaejmejaaTySized
import Derived.Test.YtalhlibaejmejaaTyLay
namespace Go.Proofs.Ytalhlibaejmejaa.TyPure
open Go.RowKit Go.Proofs.Ytalhlibaejmejaa.G Go.Proofs.YtalhlibaejmejaaW.PrintWords Go.Proofs.YtalhlibaejmejaaW.PrintLast Go.Proofs.YtalhlibaejmejaaW.PrintMore
set_option linter.unusedVariables false
set_option linter.unusedSimpArgs false

theorem sizes (a e l s : Int) (r : List S24) (hr : r.length < 2932031007402) : ∃ k, cruciblelaw10_TypesSizes.f k a e l s r = some true := by
  refine ⟨r.length + 200, ?_⟩
  unfold cruciblelaw10_TypesSizes.f
  rw [sized_f r _ (by omega) (by omega), Option.bind_some]
  cases sizedAll r with
  | false => rw [if_neg (by simp), awake_f _ (by omega), Option.bind_some]
  | true =>
    have h1 := size_f (r.length + 199) a e l s r
    have h2 := rsize_f (r.length + 198) a e l s r
    have h3 : crucibleref10_Check.f (r.length + 200) a e l s r.length = some (if types_Check.ok a e l s r.length then 0 else 1) := by
      unfold crucibleref10_Check.f
      rw [show r.length + 200 = (r.length + 198) + 2 from rfl, may_f, Option.bind_some]
      split <;> rfl
    have h4 : types_Scalar.f a e l s = some (types_Check.scal a) := by
      have : types_scalar.f a = some (types_Check.scal a) := scalar_f a
      unfold types_Scalar.f
      rw [this, Option.bind_some]
    have h5 : crucibleref10_Scalar.f a e l s = some (types_Check.scal a) := by
      unfold crucibleref10_Scalar.f
      rw [scalar_f, Option.bind_some]
    have h6 : ∀ x, crucibleref10_Promoted.f x = types_Promoted.f x := fun x => rfl
    have h7 : ∃ y, types_Promoted.f a = some y := by unfold types_Promoted.f; split <;> exact ⟨_, rfl⟩
    obtain ⟨y, h7⟩ := h7
    rw [if_pos rfl, own_f r hr, Option.bind_some, h1, Option.bind_some, h2, Option.bind_some, if_pos rfl, if_pos rfl, types_Check.f, Option.bind_some, h3, Option.bind_some, if_pos rfl, h4, h5, Option.bind_some, Option.bind_some, if_pos (by simp), h6, h7, Option.bind_some, Option.bind_some, if_pos rfl, awake_f _ (by omega), Option.bind_some]

end Go.Proofs.Ytalhlibaejmejaa.TyPure
