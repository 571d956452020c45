/- Records of a size that may be. -/
import Derived.Test.YtalhlibaejmejaaGx0
import Derived.Test.YtalhlibaejmejaaGx25
import Derived.Test.YtalhlibaejmejaaGx26
import Derived.Test.YtalhlibaejmejaaTySize
namespace Go.Proofs.Ytalhlibaejmejaa.TyPure
open Go.RowKit Go.Proofs.Ytalhlibaejmejaa.G Go.Proofs.YtalhlibaejmejaaW.PrintWords Go.Proofs.YtalhlibaejmejaaW.PrintLast Go.Proofs.YtalhlibaejmejaaW.PrintMore
set_option linter.unusedVariables false
set_option linter.unusedSimpArgs false

theorem rd24 (l : List S24) (i : Nat) (h : i < l.length) : rd_T24 l (i : Int) = l[i] := by unfold rd_T24; simp [List.getD_eq_getElem?_getD, List.getElem?_eq_getElem h]

/-- Are all records of a size that may be? -/
def sizedAll (l : List S24) : Bool := l.all fun x => decide (0 ≤ x.f2) && decide (x.f2 ≤ 65536)
theorem sized_go (l : List S24) (hl : l.length ≤ 9223372036854775806) (d : Nat) : ∀ (k i : Nat), i ≤ l.length → l.length - i = d → d < k → cruciblelaw10_sized.l0 k l i = some (sizedAll (l.drop i)) := by
  induction d with
  | zero =>
    intro k i hi hd hk
    obtain ⟨k, rfl⟩ : ∃ m, k = m + 1 := ⟨k - 1, by omega⟩
    simp only [cruciblelaw10_sized.l0]
    rw [if_neg (by omega), List.drop_of_length_le (by omega)]
    rfl
  | succ d ih =>
    intro k i hi hd hk
    obtain ⟨k, rfl⟩ : ∃ m, k = m + 1 := ⟨k - 1, by omega⟩
    have hix : i < l.length := by omega
    simp only [cruciblelaw10_sized.l0]
    rw [if_pos (by omega), if_pos (by omega), rd24 l i hix, List.drop_eq_getElem_cons hix, w64 (by omega) (by omega)]
    have hr := ih k (i + 1) (by omega) (by omega) (by omega)
    have hc : sizedAll (l[i] :: l.drop (i + 1)) = ((decide (0 ≤ l[i].f2) && decide (l[i].f2 ≤ 65536)) && sizedAll (l.drop (i + 1))) := by simp only [sizedAll, List.all_cons]
    rw [hc]
    by_cases h1 : l[i].f2 < 0
    · have : ¬ 0 ≤ l[i].f2 := by omega
      rw [if_pos h1]; simp [this]
    · rw [if_neg h1]
      by_cases h2 : l[i].f2 > 65536
      · have : ¬ l[i].f2 ≤ 65536 := by omega
        rw [if_pos h2]; simp [this]
      · have e1 : 0 ≤ l[i].f2 := by omega
        have e2 : l[i].f2 ≤ 65536 := by omega
        rw [if_neg h2]
        simp only [e1, e2, decide_true, Bool.and_self, Bool.true_and]
        exact hr
theorem sized_f (l : List S24) (k : Nat) (hl : l.length ≤ 9223372036854775806) (hk : l.length < k) : cruciblelaw10_sized.f k l = some (sizedAll l) := by
  have := sized_go l hl l.length k 0 (by omega) (by omega) (by omega)
  unfold cruciblelaw10_sized.f
  simpa using this
theorem own_f (l : List S24) (hl : l.length < 2932031007402) : cruciblelaw10_own.f l = some l := by
  unfold cruciblelaw10_own.f
  rw [if_pos (by simpa using hl)]
  rfl

end Go.Proofs.Ytalhlibaejmejaa.TyPure
