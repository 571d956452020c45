/- The law of layouts. -/
import Derived.Test.YtalhlibaejmejaaGx0
import Derived.Test.YtalhlibaejmejaaGx5
import Derived.Test.YtalhlibaejmejaaGx12
import Derived.Test.YtalhlibaejmejaaGx23
import Derived.Test.YtalhlibaejmejaaTyRLay
namespace Go.Proofs.Ytalhlibaejmejaa.TyPure
open Go.RowKit Go.Proofs.Ytalhlibaejmejaa.G Go.Proofs.YtalhlibaejmejaaW.PrintWords Go.Proofs.YtalhlibaejmejaaW.PrintLast Go.Proofs.YtalhlibaejmejaaW.PrintMore
set_option linter.unusedVariables false
set_option linter.unusedSimpArgs false

theorem layouts (nm : ByteArray) (l : List S35) (n : ByteArray) (hl : l.length < 2513169434916) : ∃ k, cruciblelaw10_TypesLayouts.f k nm l n = some true := by
  have hb := lay_length nm l
  refine ⟨l.length + 200, ?_⟩
  unfold cruciblelaw10_TypesLayouts.f
  rw [if_pos (by simpa using hl), List.nil_append, lay_f nm l _ (by omega), rlay_f nm l _ (by omega), Option.bind_some, Option.bind_some, same_f _ _ _ _ (by omega) (by omega), Option.bind_some, if_pos rfl, if_pos rfl]
  have hf : crucibleref10_Find.f (l.length + 200) (lay nm l).1 (lay nm l).2.1 (lay nm l).2.2.1 n = some (types_Find.go (lay nm l).2.1 n.toList 0) := by
    have := find_f 0 (lay nm l).1 (lay nm l).2.1 (lay nm l).2.2.1 n (by omega) (lay nm l).2.1.length (l.length + 200) 0 (by omega) (by omega) (by omega)
    unfold crucibleref10_Find.f
    simpa using this
  rw [hf, types_Find.f, Option.bind_some, Option.bind_some, if_pos rfl, awake_f _ (by omega), Option.bind_some]

end Go.Proofs.Ytalhlibaejmejaa.TyPure
