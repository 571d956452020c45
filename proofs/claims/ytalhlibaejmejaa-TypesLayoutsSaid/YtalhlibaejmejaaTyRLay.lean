/- Layouts, as the reference has them. -/
import Derived.Test.YtalhlibaejmejaaGx0
import Derived.Test.YtalhlibaejmejaaGx5
import Derived.Test.YtalhlibaejmejaaGx7
import Derived.Test.YtalhlibaejmejaaGx12
import Derived.Test.YtalhlibaejmejaaGx14
import Derived.Test.YtalhlibaejmejaaGx16
import Derived.Test.YtalhlibaejmejaaGx17
import Derived.Test.YtalhlibaejmejaaGx20
import Derived.Test.YtalhlibaejmejaaGx21
import Derived.Test.YtalhlibaejmejaaTyRUp
namespace Go.Proofs.Ytalhlibaejmejaa.TyPure
open Go.RowKit Go.Proofs.Ytalhlibaejmejaa.G Go.Proofs.YtalhlibaejmejaaW.PrintWords Go.Proofs.YtalhlibaejmejaaW.PrintLast Go.Proofs.YtalhlibaejmejaaW.PrintMore
set_option linter.unusedVariables false
set_option linter.unusedSimpArgs false

theorem rlay_step (nm : ByteArray) (l : List S35) (i : Nat) (hix : i < l.length) (h32 : l.length ≤ 32) (k : Nat) (hk : 30 < k) (acc : List S35) (e m : Int) (ha : acc.length ≤ i) (h0 : 0 ≤ e) (h1 : e ≤ 4100 * i) (hm : m = 1 ∨ m = 4) (hz : (szOf l[i].f1.f0 l[i].f1.f1 l[i].f1.f2 l[i].f1.f3 []).2 = 0)
    (ih : ∀ (acc : List S35) (e m : Int), acc.length ≤ i + 1 → 0 ≤ e → e ≤ 4100 * (i + 1 : Nat) → (m = 1 ∨ m = 4) → crucibleref10_Layout.l0 (k + 2) l m ((i + 1 : Nat) : Int) nm acc e = some (layGo nm (l.drop (i + 1)) acc e m))
    (b : Bool) (hb : b = decide (types_Find.go acc l[i].f0.toList 0 ≥ 0)) :
    crucibleref10_Layout.j1 (k + 3) l m i b nm acc e l[i].f1.f0 l[i].f1.f1 l[i].f1.f2 l[i].f1.f3 = some (if (szOf l[i].f1.f0 l[i].f1.f1 l[i].f1.f2 l[i].f1.f3 []).2 = 0 ∧ ¬ 0 ≤ types_Find.go acc l[i].f0.toList 0 then layGo nm (l.drop (i + 1)) (acc ++ [⟨l[i].f0, l[i].f1, upOf e (alignOf l[i])⟩]) (upOf e (alignOf l[i]) + (szOf l[i].f1.f0 l[i].f1.f1 l[i].f1.f2 l[i].f1.f3 []).1) (max m (alignOf l[i])) else (⟨#[]⟩, [], 0, 1)) := by
  obtain ⟨hz1, hz2, hok, hk4⟩ := sz_bd hz
  have hub := up_bd (n := e) (align_or l[i])
  have hal := align_or l[i]
  subst hb
  simp only [crucibleref10_Layout.j1]
  by_cases hf : 0 ≤ types_Find.go acc l[i].f0.toList 0
  · rw [if_pos (by simpa using hf), if_neg (by intro h; exact h.2 hf)]
  · have hs : crucibleref10_Size.f (k + 2) l[i].f1.f0 l[i].f1.f1 l[i].f1.f2 l[i].f1.f3 [] = some (szOf l[i].f1.f0 l[i].f1.f1 l[i].f1.f2 l[i].f1.f3 []) := rsize_f k _ _ _ _ _
    rw [if_neg (by simpa using hf), if_pos ⟨hz, hf⟩, hs, ralign_f, rd35 l i hix, Option.bind_some, Option.bind_some, rup_f hal h0 (by omega) (k + 2) (by omega), Option.bind_some, if_pos (by omega), if_pos (by omega), if_pos (by omega), Option.bind_some, Option.bind_some, Option.bind_some, w64 (x := (i : Int) + 1) (by omega) (by omega), w64 (x := upOf e (alignOf l[i]) + _) (by omega) (by omega)]
    have hih := fun m' hm' => ih (acc ++ [⟨l[i].f0, l[i].f1, upOf e (alignOf l[i])⟩]) (upOf e (alignOf l[i]) + (szOf l[i].f1.f0 l[i].f1.f1 l[i].f1.f2 l[i].f1.f3 []).1) m' (by simp; omega) (by omega) (by omega) hm'
    by_cases hg : alignOf l[i] > m
    · rw [if_pos hg]
      have := hih (alignOf l[i]) hal
      rw [show max m (alignOf l[i]) = alignOf l[i] by omega]
      exact this
    · rw [if_neg hg]
      have := hih m hm
      rw [show max m (alignOf l[i]) = m by omega]
      exact this

theorem rlay_go (nm : ByteArray) (l : List S35) (hl : l ≠ []) (h32 : l.length ≤ 32) (d : Nat) : ∀ (k i : Nat) (acc : List S35) (e m : Int), i ≤ l.length → l.length - i = d → 2 * d + 40 < k → acc.length ≤ i → 0 ≤ e → e ≤ 4100 * i → (m = 1 ∨ m = 4) →
    crucibleref10_Layout.l0 k l m i nm acc e = some (layGo nm (l.drop i) acc e m) := by
  induction d with
  | zero =>
    intro k i acc e m hi hd hk ha h0 h1 hm
    obtain ⟨k, rfl⟩ : ∃ m, k = m + 1 := ⟨k - 1, by omega⟩
    have hz : ¬ (l.length : Int) = 0 := by cases l with | nil => exact absurd rfl hl | cons _ _ => simp; omega
    simp only [crucibleref10_Layout.l0]
    rw [if_neg (by omega), if_neg hz, List.drop_of_length_le (by omega), rup_f hm h0 (by omega) k (by omega)]
    rfl
  | succ d ih =>
    intro k i acc e m hi hd hk ha h0 h1 hm
    obtain ⟨k, rfl⟩ : ∃ m, k = m + 4 := ⟨k - 4, by omega⟩
    have hix : i < l.length := by omega
    have hme : ∀ n : Int, crucibleref10_May.f (k + 3) l[i].f1.f0 l[i].f1.f1 l[i].f1.f2 l[i].f1.f3 n = some (types_Check.ok l[i].f1.f0 l[i].f1.f1 l[i].f1.f2 l[i].f1.f3 n) := fun n => may_f (k + 1) _ _ _ _ n
    have hfi : crucibleref10_Find.f (k + 3) nm acc e l[i].f0 = some (types_Find.go acc l[i].f0.toList 0) := by
      have := find_f 0 nm acc e l[i].f0 (by omega) acc.length (k + 3) 0 (by omega) (by omega) (by omega)
      unfold crucibleref10_Find.f
      simpa using this
    simp only [crucibleref10_Layout.l0]
    rw [if_pos (by omega), if_pos (by omega), List.drop_eq_getElem_cons hix, rd35 l i hix, hme]
    simp only [Option.bind_some, layGo, crucibleref10_Scalar.f, scalar_f, hfi]
    by_cases hz : (szOf l[i].f1.f0 l[i].f1.f1 l[i].f1.f2 l[i].f1.f3 []).2 = 0
    · obtain ⟨hz1, hz2, hok, hk4⟩ := sz_bd hz
      rw [if_pos hok]
      have hub := up_bd (n := e) (align_or l[i])
      have hal := align_or l[i]
      have hrec := rlay_step nm l i hix h32 k (by omega) acc e m ha h0 (by omega) hm hz (fun acc e m a b c d => ih (k + 2) (i + 1) acc e m (by omega) (by omega) (by omega) a b (by omega) d)
      rcases hk4 with q | q | q | q
      · rw [if_pos (by rw [q]; rfl)]; exact hrec _ rfl
      · rw [if_pos (by rw [q]; rfl)]; exact hrec _ rfl
      · rw [if_pos (by rw [q]; rfl)]; exact hrec _ rfl
      · rw [if_neg (by rw [q]; decide), if_pos q]; exact hrec _ rfl
    · rw [if_neg (show ¬ ((szOf l[i].f1.f0 l[i].f1.f1 l[i].f1.f2 l[i].f1.f3 []).2 = 0 ∧ ¬ 0 ≤ types_Find.go acc l[i].f0.toList 0) from fun h => hz h.1)]
      have hj : crucibleref10_Layout.j1 (k + 3) l m i true nm acc e l[i].f1.f0 l[i].f1.f1 l[i].f1.f2 l[i].f1.f3 = some (⟨#[]⟩, [], 0, 1) := by simp only [crucibleref10_Layout.j1, if_true]
      by_cases hok : types_Check.ok l[i].f1.f0 l[i].f1.f1 l[i].f1.f2 l[i].f1.f3 0 = true
      · rw [if_pos hok]
        have hsz : (szOf l[i].f1.f0 l[i].f1.f1 l[i].f1.f2 l[i].f1.f3 []).2 = 1 ∧ (l[i].f1.f0 = 0 ∨ l[i].f1.f0 = 5 ∨ l[i].f1.f0 = 6 ∨ l[i].f1.f0 = 7) := by
          unfold szOf at hz ⊢
          rw [if_pos (by exact hok)] at hz ⊢
          rcases ok_kind hok with (q | q | q | q) | q | q | q | q
          · simp [q]
          · simp [q] at hz
          · simp [q] at hz
          · simp [q] at hz
          · simp [q] at hz
          · simp [q]
          · rw [q] at hok; obtain ⟨h1, h2, _⟩ := rec_ok hok; omega
          · simp [q]
        rcases hsz.2 with q | q | q | q
        all_goals rw [if_neg (by rw [q]; decide), if_neg (by omega)]; exact hj
      · rw [if_neg hok]; exact hj

theorem rlay_f (nm : ByteArray) (l : List S35) (k : Nat) (hk : 110 ≤ k) : crucibleref10_Layout.f k nm l = some (lay nm l) := by
  unfold crucibleref10_Layout.f lay
  by_cases h : l.length > 32
  · rw [if_pos (by omega), if_pos h]
  · rw [if_neg (by omega), if_neg h]
    by_cases hl : l = []
    · subst hl
      obtain ⟨k, rfl⟩ : ∃ m, k = m + 1 := ⟨k - 1, by omega⟩
      simp [crucibleref10_Layout.l0]
    · rw [if_neg hl]
      exact rlay_go nm l hl (by omega) l.length k 0 [] 0 1 (by omega) (by omega) (by omega) (by simp) (by omega) (by omega) (.inl rfl)

theorem same_f (k : Nat) (n : ByteArray) (l : List S35) (z : Int) (hl : l.length ≤ 9223372036854775806) (hk : l.length + 2 < k) : crucibleref10_Same.f k n l z n l z = some true := by
  obtain ⟨k, rfl⟩ : ∃ m, k = m + 1 := ⟨k - 1, by omega⟩
  have go : ∀ (d k i : Nat), i ≤ l.length → l.length - i = d → d < k → crucibleref10_Same.l0 k i n l z n l z = some true := by
    intro d
    induction d with
    | zero =>
      intro k i hi hd hk
      obtain ⟨k, rfl⟩ : ∃ m, k = m + 1 := ⟨k - 1, by omega⟩
      simp only [crucibleref10_Same.l0]
      rw [if_neg (by omega)]
    | succ d ih =>
      intro k i hi hd hk
      obtain ⟨k, rfl⟩ : ∃ m, k = m + 1 := ⟨k - 1, by omega⟩
      simp only [crucibleref10_Same.l0]
      rw [if_pos (by omega), if_pos (by omega), if_pos (by omega), if_neg (by simp), w64 (by omega) (by omega)]
      exact ih k (i + 1) (by omega) (by omega) (by omega)
  unfold crucibleref10_Same.f
  rw [if_pos rfl, if_pos rfl]
  simp only [crucibleref10_Same.j0]
  rw [if_neg (by simp)]
  exact go l.length k 0 (by omega) (by omega) (by omega)

end Go.Proofs.Ytalhlibaejmejaa.TyPure
