/- The way up, as the reference has it. -/
import Derived.Test.YtalhlibaejmejaaGx0
import Derived.Test.YtalhlibaejmejaaGx5
import Derived.Test.YtalhlibaejmejaaGx12
import Derived.Test.YtalhlibaejmejaaGx18
import Derived.Test.YtalhlibaejmejaaGx19
import Derived.Test.YtalhlibaejmejaaTyLay
import Derived.Test.YtalhlibaejmejaaTyRSize
namespace Go.Proofs.Ytalhlibaejmejaa.TyPure
open Go.RowKit Go.Proofs.Ytalhlibaejmejaa.G Go.Proofs.YtalhlibaejmejaaW.PrintWords Go.Proofs.YtalhlibaejmejaaW.PrintLast Go.Proofs.YtalhlibaejmejaaW.PrintMore
set_option linter.unusedVariables false
set_option linter.unusedSimpArgs false

theorem rup_go {a : Int} (ha : a = 1 ∨ a = 4) (d : Nat) : ∀ (k : Nat) (n : Int), 0 ≤ n → upOf n a ≤ 2000000000 → upOf n a - n = d → d < k → crucibleref10_up.l0 k n a = some (upOf n a) := by
  induction d with
  | zero =>
    intro k n h0 h1 hd hk
    obtain ⟨k, rfl⟩ : ∃ m, k = m + 1 := ⟨k - 1, by omega⟩
    have := up_bd (n := n) ha
    simp only [crucibleref10_up.l0]
    rw [if_neg (by omega), Int.tmod_eq_emod_of_nonneg h0, if_pos (by rw [show n = upOf n a by omega]; exact this.2.2)]
    congr 1
    omega
  | succ d ih =>
    intro k n h0 h1 hd hk
    obtain ⟨k, rfl⟩ : ∃ m, k = m + 1 := ⟨k - 1, by omega⟩
    have hne : n % a ≠ 0 := by
      unfold upOf at hd
      rcases ha with rfl | rfl <;> omega
    have hs : upOf (n + 1) a = upOf n a := by
      unfold upOf at hd ⊢
      rcases ha with rfl | rfl <;> omega
    have := up_bd (n := n) ha
    simp only [crucibleref10_up.l0]
    rw [if_neg (by omega), Int.tmod_eq_emod_of_nonneg h0, if_neg hne, w64 (by omega) (by omega), ih k (n + 1) (by omega) (by rw [hs]; omega) (by rw [hs]; omega) (by omega), hs]

theorem rup_f {n a : Int} (ha : a = 1 ∨ a = 4) (h0 : 0 ≤ n) (h1 : n ≤ 1000000000) (k : Nat) (hk : 4 ≤ k) : crucibleref10_up.f k n a = some (upOf n a) := by
  have := up_bd (n := n) ha
  exact rup_go ha (upOf n a - n).toNat k n h0 (by omega) (by omega) (by omega)

theorem ralign_f (x : S35) : crucibleref10_align.f x.f1.f0 x.f1.f1 x.f1.f2 x.f1.f3 = some (alignOf x) := by
  unfold crucibleref10_align.f alignOf
  rw [bytes_f, bytes_f]
  split <;> rfl

theorem find_f (k : Nat) (nm : ByteArray) (acc : List S35) (z : Int) (n : ByteArray) (hl : acc.length ≤ 9223372036854775806) (d : Nat) : ∀ (k i : Nat), i ≤ acc.length → acc.length - i = d → d < k → crucibleref10_Find.l0 k n i nm acc z = some (types_Find.go (acc.drop i) n.toList i) := by
  induction d with
  | zero =>
    intro k i hi hd hk
    obtain ⟨k, rfl⟩ : ∃ m, k = m + 1 := ⟨k - 1, by omega⟩
    simp only [crucibleref10_Find.l0]
    rw [if_neg (by omega), List.drop_of_length_le (by omega)]
    rfl
  | succ d ih =>
    intro k i hi hd hk
    obtain ⟨k, rfl⟩ : ∃ m, k = m + 1 := ⟨k - 1, by omega⟩
    simp only [crucibleref10_Find.l0]
    rw [if_pos (by omega), if_pos (by omega), types_Find.go_step acc n.toList i (by omega), w64 (by omega) (by omega)]
    by_cases h : (rd_T35 acc i).f0.toList = n.toList
    · rw [if_pos h, if_pos h]
    · rw [if_neg h, if_neg h]
      exact ih k (i + 1) (by omega) (by omega) (by omega)

end Go.Proofs.Ytalhlibaejmejaa.TyPure
