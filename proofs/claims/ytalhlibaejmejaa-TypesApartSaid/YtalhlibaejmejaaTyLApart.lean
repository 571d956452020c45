/- The law of members that lie apart. -/
import Derived.Test.YtalhlibaejmejaaGx0
import Derived.Test.YtalhlibaejmejaaGx5
import Derived.Test.YtalhlibaejmejaaGx24
import Derived.Test.YtalhlibaejmejaaTyLay
namespace Go.Proofs.Ytalhlibaejmejaa.TyPure
open Go.RowKit Go.Proofs.Ytalhlibaejmejaa.G Go.Proofs.YtalhlibaejmejaaW.PrintWords Go.Proofs.YtalhlibaejmejaaW.PrintLast Go.Proofs.YtalhlibaejmejaaW.PrintMore
set_option linter.unusedVariables false
set_option linter.unusedSimpArgs false

/-- Members lie apart, from some place on, within a size. -/
def apart : List S35 → Int → Int → Prop
  | [], at_, z => at_ ≤ z ∧ z - at_ < 4
  | x :: r, at_, z => (szOf x.f1.f0 x.f1.f1 x.f1.f2 x.f1.f3 []).2 = 0 ∧ at_ ≤ x.f2 ∧ x.f2 - at_ ≤ 3 ∧ (alignOf x = 4 → x.f2 % 4 = 0 ∧ z % 4 = 0) ∧ apart r (x.f2 + (szOf x.f1.f0 x.f1.f1 x.f1.f2 x.f1.f3 []).1) z

theorem apart_le : ∀ (r : List S35) (at_ z : Int), apart r at_ z → at_ ≤ z
  | [], _, _, h => h.1
  | x :: r, at_, z, h => by
    have h1 := apart_le r _ _ h.2.2.2.2
    have h2 := sz_bd h.1
    have := h.2.1
    omega

theorem layGo_apart (nm : ByteArray) : ∀ (r acc : List S35) (e m : Int), (m = 1 ∨ m = 4) → (layGo nm r acc e m).2.2.2 = 0 → ∃ new z, layGo nm r acc e m = (nm, acc ++ new, z, 0) ∧ apart new e z ∧ (m = 4 → z % 4 = 0) ∧ z ≤ e + 4100 * r.length + 3
  | [], acc, e, m, hm, _ => ⟨[], upOf e m, by simp [layGo], by have := up_bd (n := e) hm; exact ⟨this.1, by omega⟩, fun h => by have := up_bd (n := e) hm; rw [h] at this ⊢; exact this.2.2, by have := up_bd (n := e) hm; simp; omega⟩
  | x :: r, acc, e, m, hm, h => by
    unfold layGo at h ⊢
    by_cases hc : (szOf x.f1.f0 x.f1.f1 x.f1.f2 x.f1.f3 []).2 = 0 ∧ ¬ 0 ≤ types_Find.go acc x.f0.toList 0
    · rw [if_pos hc] at h ⊢
      have ha := align_or x
      obtain ⟨new, z, he, hp, hz, hb⟩ := layGo_apart nm r _ _ _ (by omega) h
      have hu := up_bd (n := e) ha
      have hs := sz_bd hc.1
      refine ⟨⟨x.f0, x.f1, upOf e (alignOf x)⟩ :: new, z, ?_, ⟨hc.1, hu.1, by show upOf e (alignOf x) - e ≤ 3; omega, fun h4 => ?_, hp⟩, fun h4 => hz (by omega), by simp; omega⟩
      · rw [he, List.append_assoc]; rfl
      · have h4' : alignOf x = 4 := h4
        refine ⟨?_, hz (by omega)⟩
        show upOf e (alignOf x) % 4 = 0
        have := hu.2.2
        rw [h4'] at this ⊢
        exact this
    · rw [if_neg hc] at h; simp at h

theorem apart_go (k0 : Nat) (nm n' : ByteArray) (hn : n' = nm) (mem : List S35) (z : Int) (hz : z ≤ 1000000) (hl : mem.length ≤ 1000) (d : Nat) : ∀ (k i : Nat) (at_ : Int), i ≤ mem.length → mem.length - i = d → d + 80 < k → 0 ≤ at_ → apart (mem.drop i) at_ z → cruciblelaw10_TypesApart.l0 k nm at_ i n' mem z = some true := by
  subst hn
  induction d with
  | zero =>
    intro k i at_ hi hd hk h0 hp
    obtain ⟨k, rfl⟩ : ∃ m, k = m + 1 := ⟨k - 1, by omega⟩
    rw [List.drop_of_length_le (by omega)] at hp
    obtain ⟨p1, p2⟩ := hp
    simp only [cruciblelaw10_TypesApart.l0]
    rw [if_neg (by omega), if_pos (by omega), w64 (by omega) (by omega), if_pos p2, if_pos trivial, awake_f _ (by omega), Option.bind_some]
  | succ d ih =>
    intro k i at_ hi hd hk h0 hp
    obtain ⟨k, rfl⟩ : ∃ m, k = m + 1 := ⟨k - 1, by omega⟩
    have hix : i < mem.length := by omega
    have c0 : (i : Int) < mem.length := by omega
    have c1 : (0 : Int) ≤ i := by omega
    rw [List.drop_eq_getElem_cons hix] at hp
    obtain ⟨p1, p2, p3, p4, p5⟩ := hp
    have hle := apart_le _ _ _ p5
    have hsz := sz_bd p1
    have hrec := ih k (i + 1) _ (by omega) (by omega) (by omega) (by omega) p5
    have hw1 : wrap64 (mem[i].f2 - at_) = mem[i].f2 - at_ := w64 (by omega) (by omega)
    have hw2 : wrap64 (mem[i].f2 + (szOf mem[i].f1.f0 mem[i].f1.f1 mem[i].f1.f2 mem[i].f1.f3 []).1) = mem[i].f2 + (szOf mem[i].f1.f0 mem[i].f1.f1 mem[i].f1.f2 mem[i].f1.f3 []).1 := w64 (by omega) (by omega)
    have hw3 : wrap64 ((i : Int) + 1) = (i : Int) + 1 := w64 (by omega) (by omega)
    have hsf := size_g (k := k) (by omega) mem[i].f1.f0 mem[i].f1.f1 mem[i].f1.f2 mem[i].f1.f3 []
    have hrec' : cruciblelaw10_TypesApart.l0 k n' (mem[i].f2 + (szOf mem[i].f1.f0 mem[i].f1.f1 mem[i].f1.f2 mem[i].f1.f3 []).1) ((i : Int) + 1) n' mem z = some true := hrec
    have hst : alignOf mem[i] = 4 → Int.tmod mem[i].f2 4 = 0 ∧ Int.tmod z 4 = 0 := fun h => by
      have := p4 h
      exact ⟨by rw [Int.tmod_eq_emod_of_nonneg (by omega)]; exact this.1, by rw [Int.tmod_eq_emod_of_nonneg (by omega)]; exact this.2⟩
    simp only [cruciblelaw10_TypesApart.l0]
    rw [if_pos c0, if_pos c1, rd35 mem i hix, hsf, Option.bind_some, hw1, hw2, hw3]
    rcases hsz.2.2.2 with q | q | q | q
    · have hst := hst (by unfold alignOf; rw [if_neg (by omega), if_neg (by omega)])
      rw [if_neg (by omega), if_neg (by omega), if_pos p1, if_neg (by omega), if_neg (by omega), if_pos hst.1, if_pos hst.2]
      exact hrec'
    · have hst := hst (by unfold alignOf; rw [if_neg (by omega), if_neg (by omega)])
      rw [if_neg (by omega), if_neg (by omega), if_pos p1, if_neg (by omega), if_neg (by omega), if_pos hst.1, if_pos hst.2]
      exact hrec'
    · rw [if_pos q, if_pos p1, if_neg (by omega), if_neg (by omega)]
      exact hrec'
    · rw [if_neg (by omega), if_pos q, if_pos p1, if_neg (by omega), if_neg (by omega)]
      by_cases he : mem[i].f1.f1 = 3
      · rw [if_pos he]; exact hrec'
      · have hst := hst (by unfold alignOf; rw [if_pos q, if_neg he])
        rw [if_neg he, if_pos hst.1, if_pos hst.2]
        exact hrec'

theorem aparts (nm : ByteArray) (l : List S35) : ∃ k, cruciblelaw10_TypesApart.f k nm l = some true := by
  refine ⟨200, ?_⟩
  unfold cruciblelaw10_TypesApart.f
  rw [lay_f nm l _ (by omega), Option.bind_some]
  have hlen := lay_length nm l
  by_cases he : (lay nm l).2.2.2 = 0
  · rw [if_pos he]
    unfold lay at he hlen ⊢
    by_cases h32 : l.length > 32
    · rw [if_pos h32] at he; simp at he
    · rw [if_neg h32] at he hlen ⊢
      by_cases hl : l = []
      · rw [if_pos hl] at he; simp at he
      · rw [if_neg hl] at he hlen ⊢
        obtain ⟨new, z, hL, hp, _, hb⟩ := layGo_apart nm l [] 0 1 (.inl rfl) he
        rw [hL] at hlen ⊢
        simp only [List.nil_append] at hlen ⊢
        exact apart_go 0 nm nm rfl new z (by omega) (by omega) new.length 200 0 0 (by omega) (by omega) (by omega) (by omega) (by simpa using hp)
  · rw [if_neg he]
    have hz : (lay nm l).2.1 = [] ∧ (lay nm l).2.2.1 = 0 := by
      have go : ∀ (r acc : List S35) (e m : Int), (layGo nm r acc e m).2.2.2 ≠ 0 → (layGo nm r acc e m).2.1 = [] ∧ (layGo nm r acc e m).2.2.1 = 0 := by
        intro r
        induction r with
        | nil => intro acc e m h; simp [layGo] at h
        | cons x r ih =>
          intro acc e m h
          unfold layGo at h ⊢
          split
          · rename_i hc
            rw [if_pos hc] at h
            exact ih _ _ _ h
          · exact ⟨rfl, rfl⟩
      unfold lay at he ⊢
      split
      · exact ⟨rfl, rfl⟩
      · rename_i h32
        rw [if_neg h32] at he
        split
        · exact ⟨rfl, rfl⟩
        · rename_i hl
          rw [if_neg hl] at he
          exact go _ _ _ _ he
    rw [hz.1, hz.2, if_pos (by simp), if_pos rfl, awake_f _ (by omega), Option.bind_some]

end Go.Proofs.Ytalhlibaejmejaa.TyPure
