/- Scopes: a find in both; any act in both; is the program awake. -/
import Derived.Test.YtojmhcmgnndfgaaScP
namespace Go.Proofs.Ytojmhcmgnndfgaa.Sc
open Go.RowKit Go.Proofs.YtojmhcmgnndfgaaW.PrintWords
set_option linter.unusedVariables false
set_option linter.unusedSimpArgs false
variable {w : World} {B C g1 g2 j1 j2 : Nat} {st1 st2 : List Blk}

set_option maxHeartbeats 8000000 in
set_option maxRecDepth 100000 in
theorem play3 (t : Aside0 (Tw w B C g1 g2 st1 st2 j1 j2)) (s : ByteArray) (x : Int) (hj1 : j1 ≤ 8796093022000) (hj2 : j2 ≤ 4398046511000) :
    Calls Try.prog 8 #[P1 g1, P1 g2, actV 3 s x] w (Played B C g1 g2 (j1 + 1) (j2 + 1) st1 st2 st1 st2 w) := by
  have hT := Aside0.mk (t.out.mv0 (below_alloc (Below.refl _ _) (bx 3 s x)))
  have hF : Aside0 (Mv B C w (w.alloc (bx 3 s x))) := ⟨.of_below (below_alloc (Below.refl _ _) _) t.out.hB⟩
  have q1 := Aside0.mk (p_find hT s hj1)
  have q2 := Aside0.mk (r_find hT s hj2)
  have hs : Aside0 (st1 = st2 → pf st1 s = pf st2 s) := ⟨fun h => by rw [h]⟩
  clear t
  generalize pf st1 s = r1 at *
  generalize pf st2 s = r2 at *
  obtain ⟨a1, b1⟩ := r1
  obtain ⟨a2, b2⟩ := r2
  by_cases h : a1 = a2
  · subst h
    cases b1 <;> cases b2
    all_goals
      go_enter Try.func8, Try.ntmps8
      go_wp2_with (first | ((with_reducible refine q1.out.mono ?_); rintro e w' ⟨rfl, rfl⟩) | ((with_reducible refine q2.out.mono ?_); rintro e w' ⟨rfl, rfl⟩))
      go_ret
      first
        | (refine ⟨true, ?_, fun _ => rfl, ⟨hT.out.mono (by omega) (by omega)⟩, hF⟩
           first | rfl | (simp; done))
        | (refine ⟨false, ?_, fun h => Bool.noConfusion (congrArg Prod.snd (hs.out h)), ⟨hT.out.mono (by omega) (by omega)⟩, hF⟩
           first | rfl | (simp; done))
  · have h2 : (a1 == a2) = false := by simpa using h
    go_enter Try.func8, Try.ntmps8
    go_wp2_with (first | ((with_reducible refine q1.out.mono ?_); rintro e w' ⟨rfl, rfl⟩) | ((with_reducible refine q2.out.mono ?_); rintro e w' ⟨rfl, rfl⟩))
    go_ret
    exact ⟨false, by first | rfl | (simp; done), fun h3 => by have := hs.out h3; simp at this; exact absurd this.1 h, ⟨hT.out.mono (by omega) (by omega)⟩, hF⟩

theorem play (t : Aside0 (Tw w B C g1 g2 st1 st2 j1 j2)) (d : Int) (s : ByteArray) (x : Int) (hj1 : j1 ≤ 8796093022000) (hj2 : j2 ≤ 4398046511000) :
    Calls Try.prog 8 #[P1 g1, P1 g2, actV d s x] w (Played B C g1 g2 (j1 + 1) (j2 + 1) st1 st2 (step st1 d s x) (step st2 d s x) w) := by
  unfold step
  by_cases e0 : d = 0
  · subst e0; rw [if_pos rfl, if_pos rfl]; exact play0 t s x hj1 hj2
  rw [if_neg e0, if_neg e0]
  by_cases e1 : d = 1
  · subst e1; rw [if_pos rfl, if_pos rfl]; exact play1 t s x hj1 hj2
  rw [if_neg e1, if_neg e1]
  by_cases e2 : d = 2
  · subst e2; rw [if_pos rfl, if_pos rfl]; exact play2 t s x hj1 hj2
  rw [if_neg e2, if_neg e2]
  by_cases e3 : d = 3
  · subst e3; exact play3 t s x hj1 hj2
  exact play4 t d s x hj1 hj2 (by simpa using e0) (by simpa using e1) (by simpa using e2) (by simpa using e3)

def Yes (w : World) (e : Ending) (w' : World) : Prop := e = .returned (.bool true) ∧ Below w.heap.size w w'
set_option maxHeartbeats 8000000 in
set_option maxRecDepth 100000 in
theorem awake (w : World) : Calls Try.prog 12 #[] w (Yes w) := by
  have q1 : (get ([([] : Blk)].getD ([([] : Blk)].length - 1) []) ⟨#[120]⟩).2 = false := by rfl
  have q2 : (get ((add [[]] ⟨#[120]⟩ 1 ++ [[]]).getD ((add [[]] ⟨#[120]⟩ 1 ++ [[]]).length - 1) []) ⟨#[120]⟩).2 = false := by rfl
  have q1 := Aside0.mk q1
  have q2 := Aside0.mk q2
  go_enter Try.func12, Try.ntmps12
  go_wp2_with fail
  (with_reducible refine (new w).mono ?_)
  rintro e w1 ⟨g, v1, m1, rfl, p1, b1⟩
  have p1 := Aside0.mk p1
  have b1 := Aside0.mk b1
  go_wp2_with fail
  (with_reducible refine (declare_new p1 ⟨#[120]⟩ 1 (by simp) (by simp) q1.out).mono ?_)
  rintro e w2 ⟨rfl, v2, m2, p2, b2, f2⟩
  have p2 := Aside0.mk p2
  have b2 := Aside0.mk (b1.out.trans b2)
  clear b1 f2 p1
  go_wp2_with fail
  (with_reducible refine (enter p2 b2.out.size (by decide) (by decide)).mono ?_)
  rintro e w3 ⟨rfl, v3, m3, p3, b3, f3⟩
  have p3 := Aside0.mk p3
  have b3 := Aside0.mk (b2.out.trans b3)
  clear b2 f3 p2
  go_wp2_with fail
  (with_reducible refine (declare_new p3 ⟨#[120]⟩ 2 (by decide) (by decide) q2.out).mono ?_)
  rintro e w4 ⟨rfl, v4, m4, p4, b4, f4⟩
  have p4 := Aside0.mk p4
  have b4 := Aside0.mk (b3.out.trans b4)
  clear b3 f4 p3
  go_wp2_with fail
  (with_reducible refine (find p4 ⟨#[120]⟩ (by decide)).mono ?_)
  rintro e w' ⟨rfl, rfl⟩
  go_wp2_with fail
  (with_reducible refine (leave p4 (by decide) (by decide)).mono ?_)
  rintro e w5 ⟨rfl, v5, m5, p5, b5, f5⟩
  have p5 := Aside0.mk p5
  have b5 := Aside0.mk (b4.out.trans b5)
  clear b4 f5 p4
  go_wp2_with fail
  (with_reducible refine (find p5 ⟨#[120]⟩ (by decide)).mono ?_)
  rintro e w' ⟨rfl, rfl⟩
  go_wp2
  go_ret
  exact ⟨by first | rfl | simp, b5.out⟩
end Go.Proofs.Ytojmhcmgnndfgaa.Sc
