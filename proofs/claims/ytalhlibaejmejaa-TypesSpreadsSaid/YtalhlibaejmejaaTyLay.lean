/- Layouts, as the program has them; the way up. -/
import Derived.Test.YtalhlibaejmejaaGx0
import Derived.Test.YtalhlibaejmejaaGx5
import Derived.Test.YtalhlibaejmejaaGx7
import Derived.Test.YtalhlibaejmejaaGx10
import Derived.Test.YtalhlibaejmejaaGx11
import Derived.Test.YtalhlibaejmejaaGx22
import Derived.Test.YtalhlibaejmejaaTySize
namespace Go.Proofs.Ytalhlibaejmejaa.TyPure
open Go.RowKit Go.Proofs.Ytalhlibaejmejaa.G Go.Proofs.YtalhlibaejmejaaW.PrintWords Go.Proofs.YtalhlibaejmejaaW.PrintLast Go.Proofs.YtalhlibaejmejaaW.PrintMore
set_option linter.unusedVariables false
set_option linter.unusedSimpArgs false

/-- A member's alignment; the way up to its multiple. -/
def alignOf (x : S35) : Int := if x.f1.f0 = 4 then (if x.f1.f1 = 3 then 1 else 4) else (if x.f1.f0 = 3 then 1 else 4)
def upOf (n a : Int) : Int := (n + a - 1) / a * a
theorem align_or (x : S35) : alignOf x = 1 ∨ alignOf x = 4 := by unfold alignOf; split <;> split <;> simp

theorem up_one (n : Int) : upOf n 1 = n := by unfold upOf; omega
theorem up_bd {n a : Int} (ha : a = 1 ∨ a = 4) : n ≤ upOf n a ∧ upOf n a ≤ n + 3 ∧ upOf n a % a = 0 := by
  unfold upOf
  rcases ha with rfl | rfl <;> omega

theorem up_f {n a : Int} (ha : a = 1 ∨ a = 4) (h0 : 0 ≤ n) (h1 : n ≤ 1000000000) : types_up.f n a = some (upOf n a) := by
  unfold types_up.f upOf
  have e1 : wrap64 (n + a) = n + a := w64 (by omega) (by omega)
  have e2 : wrap64 (n + a - 1) = n + a - 1 := w64 (by omega) (by omega)
  have e3 : Int.tdiv (n + a - 1) a = (n + a - 1) / a := Int.tdiv_eq_ediv_of_nonneg (by omega)
  rw [if_neg (by omega), e1, e2, e3]
  rcases ha with rfl | rfl
  · rw [w64 (x := (n + 1 - 1) / 1) (by omega) (by omega), w64 (by omega) (by omega)]
  · rw [w64 (x := (n + 4 - 1) / 4) (by omega) (by omega), w64 (by omega) (by omega)]

theorem rd35 (l : List S35) (i : Nat) (h : i < l.length) : rd_T35 l (i : Int) = l[i] := by unfold rd_T35; simp [List.getD_eq_getElem?_getD, List.getElem?_eq_getElem h]

/-- The size of a member that may be one. -/
theorem sz_bd {x : S35} (h : (szOf x.f1.f0 x.f1.f1 x.f1.f2 x.f1.f3 []).2 = 0) : 1 ≤ (szOf x.f1.f0 x.f1.f1 x.f1.f2 x.f1.f3 []).1 ∧ (szOf x.f1.f0 x.f1.f1 x.f1.f2 x.f1.f3 []).1 ≤ 4096 ∧ types_Check.ok x.f1.f0 x.f1.f1 x.f1.f2 x.f1.f3 0 = true ∧ (x.f1.f0 = 1 ∨ x.f1.f0 = 2 ∨ x.f1.f0 = 3 ∨ x.f1.f0 = 4) := by
  obtain ⟨_, ⟨a, e, l, s⟩, _⟩ := x
  simp only [szOf, List.length_nil] at h ⊢
  by_cases hk : types_Check.ok a e l s ((0 : Nat) : Int) = true
  · rw [if_pos hk] at h ⊢
    rcases ok_kind hk with (rfl | rfl | rfl | rfl) | rfl | rfl | rfl | rfl
    · simp at h
    · exact ⟨by simp, by simp, hk, by simp⟩
    · exact ⟨by simp, by simp, hk, by simp⟩
    · exact ⟨by simp, by simp, hk, by simp⟩
    · obtain ⟨_, h1, h2, _⟩ := arr_ok hk
      refine ⟨?_, ?_, hk, by simp⟩
      · simp; split <;> omega
      · simp; split <;> omega
    · simp at h
    · obtain ⟨h1, h2, _⟩ := rec_ok hk
      omega
    · simp at h
  · rw [if_neg hk] at h; simp at h

/-- The layout of members, as both say it. -/
def layGo (nm : ByteArray) : List S35 → List S35 → Int → Int → ByteArray × List S35 × Int × Int
  | [], acc, e, m => (nm, acc, upOf e m, 0)
  | x :: r, acc, e, m =>
    if (szOf x.f1.f0 x.f1.f1 x.f1.f2 x.f1.f3 []).2 = 0 ∧ ¬ 0 ≤ types_Find.go acc x.f0.toList 0 then
      layGo nm r (acc ++ [⟨x.f0, x.f1, upOf e (alignOf x)⟩]) (upOf e (alignOf x) + (szOf x.f1.f0 x.f1.f1 x.f1.f2 x.f1.f3 []).1) (max m (alignOf x))
    else (⟨#[]⟩, [], 0, 1)
def lay (nm : ByteArray) (l : List S35) : ByteArray × List S35 × Int × Int :=
  if l.length > 32 then (⟨#[]⟩, [], 0, 3) else if l = [] then (⟨#[]⟩, [], 0, 1) else layGo nm l [] 0 1

theorem lay_go (nm : ByteArray) (l : List S35) (hl : l ≠ []) (h32 : l.length ≤ 32) (d : Nat) : ∀ (k i : Nat) (acc : List S35) (e m : Int), i ≤ l.length → l.length - i = d → 2 * d + 1 < k → acc.length ≤ i → 0 ≤ e → e ≤ 4100 * i → (m = 1 ∨ m = 4) →
    types_Layout.l0 k l e m l (l.length : Int) i nm acc 0 = some (layGo nm (l.drop i) acc e m) := by
  induction d with
  | zero =>
    intro k i acc e m hi hd hk ha h0 h1 hm
    obtain ⟨k, rfl⟩ : ∃ m, k = m + 1 := ⟨k - 1, by omega⟩
    have hz : ¬ (l.length : Int) = 0 := by cases l with | nil => exact absurd rfl hl | cons _ _ => simp; omega
    simp only [types_Layout.l0]
    rw [if_neg (by omega), if_neg hz, List.drop_of_length_le (by omega), up_f hm h0 (by omega)]
    rfl
  | succ d ih =>
    intro k i acc e m hi hd hk ha h0 h1 hm
    obtain ⟨k, rfl⟩ : ∃ m, k = m + 3 := ⟨k - 3, by omega⟩
    have hix : i < l.length := by omega
    simp only [types_Layout.l0]
    rw [if_pos (by omega), if_pos (by omega), if_pos (by omega), List.drop_eq_getElem_cons hix, rd35 l i hix, size_f]
    simp only [Option.bind_some, layGo]
    by_cases hz : (szOf l[i].f1.f0 l[i].f1.f1 l[i].f1.f2 l[i].f1.f3 []).2 = 0
    · obtain ⟨hz1, hz2, _, hk4⟩ := sz_bd hz
      rw [if_pos hz]
      simp only [types_Find.f, Option.bind_some, types_Layout.j1]
      by_cases hf : 0 ≤ types_Find.go acc l[i].f0.toList 0
      · rw [if_pos (by simpa using hf), if_neg (by intro h; exact h.2 hf)]
      · rw [if_neg (by simpa using hf), if_pos ⟨hz, hf⟩, each_f, each_f]
        simp only [Option.bind_some]
        have hub := up_bd (n := e) (align_or l[i])
        have hal := align_or l[i]
        have hrec : ∀ a, a = alignOf l[i] → (types_up.f e a).bind (fun t => if acc.length < 2513169434916 then types_Layout.l0 (k + 1) l (wrap64 (t + (szOf l[i].f1.f0 l[i].f1.f1 l[i].f1.f2 l[i].f1.f3 []).1)) (mx m a) l (l.length : Int) (wrap64 ((i : Int) + 1)) nm (acc ++ [⟨l[i].f0, ⟨l[i].f1.f0, l[i].f1.f1, l[i].f1.f2, l[i].f1.f3⟩, t⟩]) 0 else none) = some (layGo nm (l.drop (i + 1)) (acc ++ [⟨l[i].f0, l[i].f1, upOf e (alignOf l[i])⟩]) (upOf e (alignOf l[i]) + (szOf l[i].f1.f0 l[i].f1.f1 l[i].f1.f2 l[i].f1.f3 []).1) (max m (alignOf l[i]))) := by
          intro a ha'
          subst ha'
          rw [up_f hal h0 (by omega)]
          simp only [Option.bind_some]
          rw [if_pos (by omega), w64 (by omega) (by omega), w64 (x := (i : Int) + 1) (by omega) (by omega)]
          have hmx : mx m (alignOf l[i]) = max m (alignOf l[i]) := by unfold mx; omega
          rw [hmx]
          exact ih (k + 1) (i + 1) _ _ _ (by omega) (by omega) (by omega) (by simp; omega) (by omega) (by omega) (by omega)
        by_cases h4 : l[i].f1.f0 = 4
        · rw [if_pos h4]
          exact hrec _ (by unfold alignOf; rw [if_pos h4])
        · rw [if_neg h4]
          exact hrec _ (by unfold alignOf; rw [if_neg h4])
    · rw [if_neg hz, if_neg (by intro h; exact hz h.1)]
      simp only [types_Layout.j1, if_true]

theorem lay_f (nm : ByteArray) (l : List S35) (k : Nat) (hk : 70 ≤ k) : types_Layout.f k nm l = some (lay nm l) := by
  unfold types_Layout.f lay
  by_cases h : l.length > 32
  · rw [if_pos (by omega), if_pos h]
  · rw [if_neg (by omega), if_neg h]
    by_cases hl : l = []
    · subst hl
      obtain ⟨k, rfl⟩ : ∃ m, k = m + 1 := ⟨k - 1, by omega⟩
      simp [types_Layout.l0]
    · rw [if_neg hl]
      exact lay_go nm l hl (by omega) l.length k 0 [] 0 1 (by omega) (by omega) (by omega) (by simp) (by omega) (by omega) (.inl rfl)

theorem lay_length (nm : ByteArray) (l : List S35) : (lay nm l).2.1.length ≤ l.length := by
  have go : ∀ (r acc : List S35) (e m : Int), (layGo nm r acc e m).2.1.length ≤ acc.length + r.length := by
    intro r
    induction r with
    | nil => intro acc e m; simp [layGo]
    | cons x r ih =>
      intro acc e m
      unfold layGo
      split
      · have := ih (acc ++ [⟨x.f0, x.f1, upOf e (alignOf x)⟩]) (upOf e (alignOf x) + (szOf x.f1.f0 x.f1.f1 x.f1.f2 x.f1.f3 []).1) (max m (alignOf x))
        simp at this ⊢
        omega
      · simp
  unfold lay
  split
  · simp
  · split
    · simp
    · simpa using go l [] 0 1

theorem awake_f (k : Nat) (hk : 70 ≤ k) : cruciblelaw10_awake.f k = some true := by
  unfold cruciblelaw10_awake.f
  rw [lay_f _ _ k hk]
  kernel_rfl

end Go.Proofs.Ytalhlibaejmejaa.TyPure
