/- The law of variables that lie one behind the other. -/
import Derived.Test.YtalhlibaejmejaaGx0
import Derived.Test.YtalhlibaejmejaaGx9
import Derived.Test.YtalhlibaejmejaaGx35
import Derived.Test.YtalhlibaejmejaaTySpread
namespace Go.Proofs.Ytalhlibaejmejaa.TyPure
open Go.RowKit Go.Proofs.Ytalhlibaejmejaa.G Go.Proofs.YtalhlibaejmejaaW.PrintWords Go.Proofs.YtalhlibaejmejaaW.PrintLast Go.Proofs.YtalhlibaejmejaaW.PrintMore
set_option linter.unusedVariables false
set_option linter.unusedSimpArgs false

theorem lies_len (r : List S24) : ∀ (l new : List S49) (e n : Int), lies r l new e n → new.length = l.length
  | [], [], _, _, _ => rfl
  | x :: l, y :: new, _, _, h => by have := lies_len r l new _ _ h.2.2.2.2.2.2; simp [this]
  | [], _ :: _, _, _, h => h.elim
  | _ :: _, [], _, _, h => h.elim
theorem lies_le (r : List S24) (hr : sizedAll r = true) : ∀ (l new : List S49) (e n : Int), lies r l new e n → e ≤ n
  | [], [], _, _, h => h.1
  | x :: l, y :: new, e, n, h => by
    have h1 := lies_le r hr l new _ _ h.2.2.2.2.2.2
    have h2 := sz49_bd x r hr
    have h3 := h.2.2.2.1
    omega
  | [], _ :: _, _, _, h => h.elim
  | _ :: _, [], _, _, h => h.elim

theorem lie_go (r : List S24) (hr : sizedAll r = true) (l new : List S49) (hl : l.length < 2513169434916) (hn : new.length = l.length) (n : Int) (hn1 : n ≤ 65536) (d : Nat) : ∀ (k i : Nat) (e : Int), i ≤ l.length → l.length - i = d → d + 80 < k → 0 ≤ e → lies r (l.drop i) (new.drop i) e n → cruciblelaw10_TypesLie.l0 k l r new n e i = some true := by
  induction d with
  | zero =>
    intro k i e hi hd hk h0 hp
    obtain ⟨k, rfl⟩ : ∃ m, k = m + 1 := ⟨k - 1, by omega⟩
    rw [List.drop_of_length_le (by omega), List.drop_of_length_le (by omega)] at hp
    obtain ⟨p1, p2⟩ := hp
    simp only [cruciblelaw10_TypesLie.l0]
    rw [if_neg (by omega), if_pos p1, w64 (by omega) (by omega), if_pos p2, awake_f _ (by omega), Option.bind_some]
  | succ d ih =>
    intro k i e hi hd hk h0 hp
    obtain ⟨k, rfl⟩ : ∃ m, k = m + 1 := ⟨k - 1, by omega⟩
    have hix : i < l.length := by omega
    have hin : i < new.length := by omega
    have c0 : (i : Int) < l.length := by omega
    have c2 : (i : Int) < new.length := by omega
    have c1 : (0 : Int) ≤ i := by omega
    rw [List.drop_eq_getElem_cons hix, List.drop_eq_getElem_cons hin] at hp
    obtain ⟨p0, p1, p2, p3, p4, p5, p6⟩ := hp
    have hle := lies_le r hr _ _ _ _ p6
    have hb := sz49_bd l[i] r hr
    have hsf : types_Size.f k l[i].f1.f0 l[i].f1.f1 l[i].f1.f2 l[i].f1.f3 r = some (sz49 l[i] r) := size_g (by omega) _ _ _ _ r
    have hrec := ih k (i + 1) _ (by omega) (by omega) (by omega) (by omega) p6
    have hw3 : wrap64 ((i : Int) + 1) = ((i + 1 : Nat) : Int) := w64 (by omega) (by omega)
    simp only [cruciblelaw10_TypesLie.l0]
    rw [if_pos c2, if_pos c1, if_pos c0, rd49 l i hix, rd49 new i hin, hsf, Option.bind_some, if_pos p0, p1, if_pos rfl, p2, if_neg (by simp), if_neg (by omega), Int.tmod_eq_emod_of_nonneg (by omega), if_pos p5, w64 (x := new[i].f2 - e) (by omega) (by omega), if_neg (by omega), w64 (x := new[i].f2 + (sz49 l[i] r).1) (by omega) (by omega), hw3]
    exact hrec

theorem lie (l : List S49) (r : List S24) (hl : l.length < 2513169434916) (hr0 : r.length < 2932031007402) : ∃ k, cruciblelaw10_TypesLie.f k l r = some true := by
  refine ⟨l.length + r.length + 200, ?_⟩
  unfold cruciblelaw10_TypesLie.f
  rw [sized_f r _ (by omega) (by omega), Option.bind_some]
  cases hr : sizedAll r with
  | false => rw [if_neg (by simp), awake_f _ (by omega), Option.bind_some]
  | true =>
    rw [if_pos rfl, spread_f r hr l hl _ (by omega), Option.bind_some]
    by_cases hz : ∀ x ∈ l, (sz49 x r).2 = 0
    · rcases spP_lies r hr l [] 0 (by omega) (by omega) hz with h | ⟨new, n, h, h2, h3, h4, h5⟩
      · rw [show upOf 0 4 = 0 from rfl] at h
        rw [h, if_neg (by simp), if_pos (by simp), if_pos rfl, awake_f _ (by omega), Option.bind_some]
      · rw [show upOf 0 4 = 0 from rfl, List.nil_append] at h
        have hn := lies_len r _ _ _ _ h2
        rw [h, if_pos rfl, if_pos (by simp [hn]), Int.tmod_eq_emod_of_nonneg h4, if_pos h3, if_neg (show ¬ n < 0 by omega)]
        simp only [cruciblelaw10_TypesLie.j0]
        rw [if_neg (by simp; omega)]
        exact lie_go r hr l new hl hn n h5 l.length _ 0 0 (by omega) (by omega) (by omega) (by omega) (by simpa using h2)
    · rw [spP_err r hr l _ _ _ hz, if_neg (by simp), if_pos (by simp), if_pos rfl, awake_f _ (by omega), Option.bind_some]

end Go.Proofs.Ytalhlibaejmejaa.TyPure
