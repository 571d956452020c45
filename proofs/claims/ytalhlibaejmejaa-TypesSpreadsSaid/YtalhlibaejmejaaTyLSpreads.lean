/- The law of where any variables lie. -/
import Derived.Test.YtalhlibaejmejaaGx0
import Derived.Test.YtalhlibaejmejaaGx16
import Derived.Test.YtalhlibaejmejaaGx33
import Derived.Test.YtalhlibaejmejaaGx34
import Derived.Test.YtalhlibaejmejaaTySpread
import Derived.Test.YtalhlibaejmejaaTyRUp
namespace Go.Proofs.Ytalhlibaejmejaa.TyPure
open Go.RowKit Go.Proofs.Ytalhlibaejmejaa.G Go.Proofs.YtalhlibaejmejaaW.PrintWords Go.Proofs.YtalhlibaejmejaaW.PrintLast Go.Proofs.YtalhlibaejmejaaW.PrintMore
set_option linter.unusedVariables false
set_option linter.unusedSimpArgs false

theorem up_up (e : Int) : upOf (upOf e 4) 4 = upOf e 4 := by unfold upOf; omega

/-- The reference's way: e: the end of the last one. -/
theorem rspread_go (r : List S24) (hr : sizedAll r = true) (l : List S49) (hl : l.length < 2513169434916) (d : Nat) : ∀ (k i : Nat) (acc : List S49) (e : Int) (b : Bool), i ≤ l.length → l.length - i = d → d + 8 < k → acc.length ≤ i → 0 ≤ e → e ≤ 65536 →
    crucibleref10_Spread.l0 k l r acc e b i = some (spP r (l.drop i) acc (upOf e 4) b) := by
  induction d with
  | zero =>
    intro k i acc e b hi hd hk ha h0 h1
    obtain ⟨k, rfl⟩ : ∃ m, k = m + 1 := ⟨k - 1, by omega⟩
    simp only [crucibleref10_Spread.l0]
    rw [if_neg (by omega), List.drop_of_length_le (by omega), rup_f (.inr rfl) h0 (by omega) _ (by omega)]
    unfold spP
    cases b with
    | true => simp
    | false =>
      rw [if_neg (by simp), if_neg (by simp), Option.bind_some, Option.bind_some]
      split <;> rfl
  | succ d ih =>
    intro k i acc e b hi hd hk ha h0 h1
    obtain ⟨k, rfl⟩ : ∃ m, k = m + 1 := ⟨k - 1, by omega⟩
    have hix : i < l.length := by omega
    have c0 : (i : Int) < l.length := by omega
    have c1 : (0 : Int) ≤ i := by omega
    have c2 : i + 1 ≤ l.length := by omega
    have c3 : l.length - (i + 1) = d := by omega
    have c4 : d + 8 < k := by omega
    have c5 : acc.length ≤ i + 1 := by omega
    have c6 : acc.length < 2513169434916 := by omega
    have hsf : crucibleref10_Size.f k l[i].f1.f0 l[i].f1.f1 l[i].f1.f2 l[i].f1.f3 r = some (sz49 l[i] r) := rsize_g (by omega) _ _ _ _ r
    have hbd := sz49_bd l[i] r hr
    have hu := up_bd (n := e) (a := 4) (.inr rfl)
    have hw3 : wrap64 ((i : Int) + 1) = ((i + 1 : Nat) : Int) := w64 (by omega) (by omega)
    have hih := fun acc e b => ih k (i + 1) acc e b c2 c3 c4
    simp only [crucibleref10_Spread.l0]
    rw [if_pos c0, if_pos c1, rd49 l i hix, hsf, Option.bind_some, List.drop_eq_getElem_cons hix, rup_f (.inr rfl) h0 (by omega) _ (by omega), Option.bind_some, w64 (x := 65536 - upOf e 4) (by omega) (by omega), hw3]
    unfold spP
    by_cases hz : (sz49 l[i] r).2 = 0
    · rw [if_pos hz, if_pos hz]
      cases b with
      | true =>
        rw [if_pos rfl]
        have h := hih acc (upOf e 4) true c5 (by omega) (by omega)
        rw [up_up] at h
        rw [h]
        congr 1
        by_cases hall : ∀ x ∈ l.drop (i + 1), (sz49 x r).2 = 0
        · rw [spP_long r _ _ _ hall]
          split
          · rfl
          · rw [spP_long r _ _ _ hall]
        · rw [spP_err r hr _ _ _ _ hall]
          split
          · rfl
          · rw [spP_err r hr _ _ _ _ hall]
      | false =>
        rw [if_neg (by simp)]
        by_cases hg : (sz49 l[i] r).1 > 65536 - upOf e 4
        · rw [if_pos hg, if_pos hg]
          have h := hih acc (upOf e 4) (decide ((sz49 l[i] r).1 > 65536 - upOf e 4)) c5 (by omega) (by omega)
          rw [up_up] at h
          rw [h, decide_eq_true hg]
        · rw [if_neg hg, if_neg hg, if_pos c6, w64 (x := upOf e 4 + (sz49 l[i] r).1) (by omega) (by omega), decide_eq_false hg]
          exact hih _ _ false (by simp; omega) (by omega) (by omega)
    · rw [if_neg hz, if_neg hz]

theorem rspread_f (r : List S24) (hr : sizedAll r = true) (l : List S49) (hl : l.length < 2513169434916) (k : Nat) (hk : l.length + 8 < k) : crucibleref10_Spread.f k l r = some (spP r l [] 0 false) := by
  have := rspread_go r hr l hl l.length k 0 [] 0 false (by omega) (by omega) (by omega) (by simp) (by omega) (by omega)
  unfold crucibleref10_Spread.f
  rw [show upOf 0 4 = 0 from rfl] at this
  simpa using this

theorem spP_len (r : List S24) : ∀ (l acc : List S49) (a : Int) (b : Bool), (spP r l acc a b).1.length ≤ acc.length + l.length
  | [], acc, a, b => by unfold spP; split; · simp
                        · split <;> simp
  | x :: l, acc, a, b => by
    unfold spP
    split
    · split
      · have := spP_len r l acc a true; simp; omega
      · have := spP_len r l (acc ++ [⟨x.f0, x.f1, a⟩]) (upOf (a + (sz49 x r).1) 4) b; simp at this ⊢; omega
    · simp

theorem alike_go (m : List S49) (hm : m.length < 9223372036854775806) (d : Nat) : ∀ (k i : Nat), i ≤ m.length → m.length - i = d → d + 80 < k → cruciblelaw10_TypesSpreads.l0 k m m i = some true := by
  induction d with
  | zero =>
    intro k i hi hd hk
    obtain ⟨k, rfl⟩ : ∃ m, k = m + 1 := ⟨k - 1, by omega⟩
    simp only [cruciblelaw10_TypesSpreads.l0]
    rw [if_neg (by omega), awake_f _ (by omega), Option.bind_some]
  | succ d ih =>
    intro k i hi hd hk
    obtain ⟨k, rfl⟩ : ∃ m, k = m + 1 := ⟨k - 1, by omega⟩
    have hw3 : wrap64 ((i : Int) + 1) = ((i + 1 : Nat) : Int) := w64 (by omega) (by omega)
    simp only [cruciblelaw10_TypesSpreads.l0]
    rw [if_pos (by omega), if_pos (by omega), if_pos (by omega), if_neg (by simp), hw3]
    exact ih k (i + 1) (by omega) (by omega) (by omega)

theorem spreads (l : List S49) (r : List S24) (hl : l.length < 2513169434916) (hr0 : r.length < 2932031007402) : ∃ k, cruciblelaw10_TypesSpreads.f k l r = some true := by
  have hlen := fun b => spP_len r l [] 0 b
  refine ⟨l.length + r.length + 300, ?_⟩
  unfold cruciblelaw10_TypesSpreads.f
  rw [sized_f r _ (by omega) (by omega), Option.bind_some]
  cases hr : sizedAll r with
  | false => rw [if_neg (by simp), awake_f _ (by omega), Option.bind_some]
  | true =>
    rw [if_pos rfl, if_pos (by simpa using hl), own_f r hr0, Option.bind_some, List.nil_append, spread_f r hr l hl _ (by omega), Option.bind_some, rspread_f r hr l hl _ (by omega), Option.bind_some, if_pos rfl, if_pos rfl]
    simp only [cruciblelaw10_TypesSpreads.j0]
    rw [if_neg (by simp)]
    have := hlen false
    simp at this
    exact alike_go _ (by omega) _ _ 0 (by omega) rfl (by omega)

end Go.Proofs.Ytalhlibaejmejaa.TyPure
