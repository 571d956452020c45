/- Variables one behind the other, as the program lays them. -/
import Derived.Test.YtalhlibaejmejaaGx0
import Derived.Test.YtalhlibaejmejaaGx7
import Derived.Test.YtalhlibaejmejaaGx9
import Derived.Test.YtalhlibaejmejaaGx32
import Derived.Test.YtalhlibaejmejaaTyLay
import Derived.Test.YtalhlibaejmejaaTySized
namespace Go.Proofs.Ytalhlibaejmejaa.TyPure
open Go.RowKit Go.Proofs.Ytalhlibaejmejaa.G Go.Proofs.YtalhlibaejmejaaW.PrintWords Go.Proofs.YtalhlibaejmejaaW.PrintLast Go.Proofs.YtalhlibaejmejaaW.PrintMore
set_option linter.unusedVariables false
set_option linter.unusedSimpArgs false

def sz49 (x : S49) (r : List S24) : Int × Int := szOf x.f1.f0 x.f1.f1 x.f1.f2 x.f1.f3 r
theorem rd49 (l : List S49) (i : Nat) (h : i < l.length) : rd_T49 l (i : Int) = l[i] := by unfold rd_T49; simp [List.getD_eq_getElem?_getD, List.getElem?_eq_getElem h]

theorem sz49_bd (x : S49) (r : List S24) (hr : sizedAll r = true) : 0 ≤ (sz49 x r).1 ∧ (sz49 x r).1 ≤ 65536 ∧ ((sz49 x r).2 = 0 ∨ (sz49 x r).2 = 1) := by
  obtain ⟨_, ⟨a, e, l, s⟩, _⟩ := x
  unfold sz49 szOf
  dsimp only
  by_cases hk : types_Check.ok a e l s r.length = true
  · rw [if_pos hk]
    rcases ok_kind hk with (rfl | rfl | rfl | rfl) | rfl | rfl | rfl | rfl
    · simp
    · simp
    · simp
    · simp
    · obtain ⟨_, h1, h2, _⟩ := arr_ok hk
      simp
      split <;> omega
    · simp
    · obtain ⟨h1, h2, _⟩ := rec_ok hk
      obtain ⟨j, rfl⟩ := Int.eq_ofNat_of_zero_le h1
      have hj : j < r.length := by omega
      have := List.all_eq_true.1 hr r[j] (List.getElem_mem hj)
      rw [rd24 r j hj]
      simp at this
      simp
      omega
    · simp
  · rw [if_neg hk]; simp

/-- As the program says it. -/
def spP (r : List S24) : List S49 → List S49 → Int → Bool → List S49 × Int × Int
  | [], acc, a, long => if long then ([], 0, 3) else if a > 65536 then ([], 0, 3) else (acc, a, 0)
  | x :: l, acc, a, long =>
    if (sz49 x r).2 = 0 then
      if (sz49 x r).1 > 65536 - a then spP r l acc a true
      else spP r l (acc ++ [⟨x.f0, x.f1, a⟩]) (upOf (a + (sz49 x r).1) 4) long
    else ([], 0, (sz49 x r).2)

theorem spread_go (r : List S24) (hr : sizedAll r = true) (l : List S49) (hl : l.length < 2513169434916) (d : Nat) : ∀ (k i : Nat) (acc : List S49) (a : Int) (b : Bool), i ≤ l.length → l.length - i = d → d + 4 < k → acc.length ≤ i → 0 ≤ a → a ≤ 65536 →
    types_Spread.l0 k r acc a b l (l.length : Int) i = some (spP r (l.drop i) acc a b) := by
  induction d with
  | zero =>
    intro k i acc a b hi hd hk ha h0 h1
    obtain ⟨k, rfl⟩ : ∃ m, k = m + 1 := ⟨k - 1, by omega⟩
    simp only [types_Spread.l0]
    rw [if_neg (by omega), List.drop_of_length_le (by omega)]
    unfold spP
    cases b with
    | true => simp
    | false => simp; split <;> rfl
  | succ d ih =>
    intro k i acc a b hi hd hk ha h0 h1
    obtain ⟨k, rfl⟩ : ∃ m, k = m + 1 := ⟨k - 1, by omega⟩
    have hix : i < l.length := by omega
    have hsf : types_Size.f k l[i].f1.f0 l[i].f1.f1 l[i].f1.f2 l[i].f1.f3 r = some (sz49 l[i] r) := size_g (by omega) _ _ _ _ r
    have hbd := sz49_bd l[i] r hr
    have hmn : mn a 65536 = a := by unfold mn; omega
    have hw3 : wrap64 ((i : Int) + 1) = ((i + 1 : Nat) : Int) := w64 (by omega) (by omega)
    simp only [types_Spread.l0]
    rw [if_pos (by omega), if_pos (by omega), if_pos (by omega), rd49 l i hix, hsf, Option.bind_some, List.drop_eq_getElem_cons hix, hmn, w64 (x := 65536 - a) (by omega) (by omega), hw3]
    unfold spP
    by_cases hz : (sz49 l[i] r).2 = 0
    · rw [if_pos hz, if_pos hz]
      by_cases hg : (sz49 l[i] r).1 > 65536 - a
      · rw [if_pos hg, if_pos hg]
        exact ih k (i + 1) acc a true (by omega) (by omega) (by omega) (by omega) h0 h1
      · rw [if_neg hg, if_neg hg, w64 (x := a + (sz49 l[i] r).1) (by omega) (by omega), up_f (.inr rfl) (by omega) (by omega), Option.bind_some, if_pos (by omega)]
        have hu := up_bd (n := a + (sz49 l[i] r).1) (a := 4) (.inr rfl)
        exact ih k (i + 1) _ _ b (by omega) (by omega) (by omega) (by simp; omega) (by omega) (by omega)
    · rw [if_neg hz, if_neg hz]

theorem spread_f (r : List S24) (hr : sizedAll r = true) (l : List S49) (hl : l.length < 2513169434916) (k : Nat) (hk : l.length + 4 < k) : types_Spread.f k l r = some (spP r l [] 0 false) := by
  have := spread_go r hr l hl l.length k 0 [] 0 false (by omega) (by omega) (by omega) (by simp) (by omega) (by omega)
  unfold types_Spread.f
  simpa using this

theorem spP_long (r : List S24) : ∀ (l acc : List S49) (a : Int), (∀ x ∈ l, (sz49 x r).2 = 0) → spP r l acc a true = ([], 0, 3)
  | [], acc, a, h => by simp [spP]
  | x :: l, acc, a, h => by
    unfold spP
    rw [if_pos (h x (by simp))]
    split
    · exact spP_long r l _ _ (fun y hy => h y (by simp [hy]))
    · exact spP_long r l _ _ (fun y hy => h y (by simp [hy]))
theorem spP_err (r : List S24) (hr : sizedAll r = true) : ∀ (l acc : List S49) (a : Int) (b : Bool), (¬ ∀ x ∈ l, (sz49 x r).2 = 0) → spP r l acc a b = ([], 0, 1)
  | [], acc, a, b, h => absurd (by simp) h
  | x :: l, acc, a, b, h => by
    unfold spP
    have hb := sz49_bd x r hr
    by_cases hz : (sz49 x r).2 = 0
    · have h' : ¬ ∀ y ∈ l, (sz49 y r).2 = 0 := fun hh => h (by
        intro y hy
        rcases List.mem_cons.1 hy with rfl | hy
        · exact hz
        · exact hh y hy)
      rw [if_pos hz]
      split
      · exact spP_err r hr l _ _ _ h'
      · exact spP_err r hr l _ _ _ h'
    · rw [if_neg hz]
      have : (sz49 x r).2 = 1 := by omega
      rw [this]

/-- What the program's answer is good for. -/
def lies (r : List S24) : List S49 → List S49 → Int → Int → Prop
  | [], [], e, n => e ≤ n ∧ n - e < 4
  | x :: l, y :: new, e, n => (sz49 x r).2 = 0 ∧ y.f0 = x.f0 ∧ y.f1 = x.f1 ∧ e ≤ y.f2 ∧ y.f2 - e ≤ 3 ∧ y.f2 % 4 = 0 ∧ lies r l new (y.f2 + (sz49 x r).1) n
  | _, _, _, _ => False

theorem spP_lies (r : List S24) (hr : sizedAll r = true) : ∀ (l acc : List S49) (e : Int), 0 ≤ e → e ≤ 65536 → (∀ x ∈ l, (sz49 x r).2 = 0) → spP r l acc (upOf e 4) false = ([], 0, 3) ∨ ∃ new n, spP r l acc (upOf e 4) false = (acc ++ new, n, 0) ∧ lies r l new e n ∧ n % 4 = 0 ∧ 0 ≤ n ∧ n ≤ 65536
  | [], acc, e, h0, h1, h => by
    have hu := up_bd (n := e) (a := 4) (.inr rfl)
    refine .inr ⟨[], upOf e 4, ?_, ⟨hu.1, by omega⟩, hu.2.2, by omega, by omega⟩
    unfold spP
    rw [if_neg (by simp), if_neg (by omega), List.append_nil]
  | x :: l, acc, e, h0, h1, h => by
    have hu := up_bd (n := e) (a := 4) (.inr rfl)
    have hb := sz49_bd x r hr
    unfold spP
    rw [if_pos (h x (by simp))]
    by_cases hg : (sz49 x r).1 > 65536 - upOf e 4
    · rw [if_pos hg]
      exact .inl (spP_long r l _ _ (fun y hy => h y (by simp [hy])))
    · rw [if_neg hg]
      rcases spP_lies r hr l (acc ++ [⟨x.f0, x.f1, upOf e 4⟩]) (upOf e 4 + (sz49 x r).1) (by omega) (by omega) (fun y hy => h y (by simp [hy])) with h2 | ⟨new, n, h2, h3, h4⟩
      · exact .inl h2
      · exact .inr ⟨⟨x.f0, x.f1, upOf e 4⟩ :: new, n, by rw [h2, List.append_assoc]; rfl, ⟨h x (by simp), rfl, rfl, hu.1, by show upOf e 4 - e ≤ 3; omega, hu.2.2, h3⟩, h4⟩

end Go.Proofs.Ytalhlibaejmejaa.TyPure
