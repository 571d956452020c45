-- laid by given.sh
import Derived.Test.YtdhmnjoceeolcaaGFx0
namespace Go.Proofs.Ytdhmnjoceeolcaa.GF
open Go.RowKit Go.Proofs.YtdhmnjoceeolcaaW.PrintWords Go.Proofs.YtdhmnjoceeolcaaW.PrintLast Go.Proofs.YtdhmnjoceeolcaaW.PrintMore
attribute [local go_sem] max2_int min2_int max_two min_two max_three min_three max_four min_four   -- for this text's walks alone
set_option linter.unusedVariables false
set_option linter.unusedSimpArgs false

/-! ### isa_parts: function 30 -/
mutual
def isa_parts.j0 : Nat → Int → Bool → Option (Int)
  | 0, _, _ => none
  | k + 1, x0, x8 => if x8 = true then (some 263) else (if x0 = 32 then (isa_parts.j1 k x0 (x0 == 32)) else (if x0 = 35 then (isa_parts.j1 k x0 (x0 == 35)) else (isa_parts.j1 k x0 (x0 == 36))))
def isa_parts.j1 : Nat → Int → Bool → Option (Int)
  | 0, _, _ => none
  | k + 1, x9, x10 => if x10 = true then (some 267) else (if x9 = 37 then (isa_parts.j2 k x9 (x9 == 37)) else (isa_parts.j2 k x9 (x9 == 38)))
def isa_parts.j2 : Nat → Int → Bool → Option (Int)
  | 0, _, _ => none
  | k + 1, x9, x14 => if x14 = true then (some 139) else (if x9 = 33 then (some 265) else (if x9 = 34 then (some 401) else (if x9 = 39 then (isa_parts.j3 k x9 (x9 == 39)) else (isa_parts.j3 k x9 (x9 == 40)))))
def isa_parts.j3 : Nat → Int → Bool → Option (Int)
  | 0, _, _ => none
  | k + 1, x9, x21 => if x21 = true then (some 10) else (if x9 = 41 then (isa_parts.j4 k x9 (x9 == 41)) else (isa_parts.j4 k x9 (x9 == 42)))
def isa_parts.j4 : Nat → Int → Bool → Option (Int)
  | 0, _, _ => none
  | k + 1, x9, x24 => if x24 = true then (some 32) else (if x9 = 43 then (isa_parts.j5 k x9 (x9 == 43)) else (if x9 = 45 then (isa_parts.j5 k x9 (x9 == 45)) else (isa_parts.j5 k x9 (x9 == 47))))
def isa_parts.j5 : Nat → Int → Bool → Option (Int)
  | 0, _, _ => none
  | k + 1, x9, x27 => if x27 = true then (some 2) else (if x9 = 44 then (some 257) else (if x9 = 46 then (some 64) else (some 0)))
end
def isa_parts.f (k : Nat) (a0 : Int) : Option (Int) := if a0 ≥ 1 then (isa_parts.j0 k a0 (decide (a0 ≤ 19))) else (isa_parts.j0 k a0 false)
theorem isa_parts.mono_l : ∀ k, (∀ y0 y1, LeO (isa_parts.j0 k y0 y1) (isa_parts.j0 (k + 1) y0 y1)) ∧ (∀ y0 y1, LeO (isa_parts.j1 k y0 y1) (isa_parts.j1 (k + 1) y0 y1)) ∧ (∀ y0 y1, LeO (isa_parts.j2 k y0 y1) (isa_parts.j2 (k + 1) y0 y1)) ∧ (∀ y0 y1, LeO (isa_parts.j3 k y0 y1) (isa_parts.j3 (k + 1) y0 y1)) ∧ (∀ y0 y1, LeO (isa_parts.j4 k y0 y1) (isa_parts.j4 (k + 1) y0 y1)) ∧ (∀ y0 y1, LeO (isa_parts.j5 k y0 y1) (isa_parts.j5 (k + 1) y0 y1))
  | 0 => ⟨fun _ _ r h => by simp [isa_parts.j0] at h, fun _ _ r h => by simp [isa_parts.j1] at h, fun _ _ r h => by simp [isa_parts.j2] at h, fun _ _ r h => by simp [isa_parts.j3] at h, fun _ _ r h => by simp [isa_parts.j4] at h, fun _ _ r h => by simp [isa_parts.j5] at h⟩
  | k + 1 => by
    obtain ⟨ih0, ih1, ih2, ih3, ih4, ih5⟩ := isa_parts.mono_l k
    refine ⟨?_, ?_, ?_, ?_, ?_, ?_⟩
    · intro y0 y1
      unfold isa_parts.j0
      repeat' first
      | (with_reducible exact ih0 _ _)
      | (with_reducible exact ih1 _ _)
      | (with_reducible exact ih2 _ _)
      | (with_reducible exact ih3 _ _)
      | (with_reducible exact ih4 _ _)
      | (with_reducible exact ih5 _ _)
      | (with_reducible exact LeO.refl _)
      | (with_reducible exact LeO.none _)
      | (with_reducible refine LeO.ite ?_ ?_)
      | (with_reducible refine LeO.bind ?_ (fun _ => ?_))
      | exact ih0 _ _
      | exact ih1 _ _
      | exact ih2 _ _
      | exact ih3 _ _
      | exact ih4 _ _
      | exact ih5 _ _
      | exact LeO.none _
      | refine LeO.ite ?_ ?_
      | refine LeO.bind ?_ (fun _ => ?_)
    · intro y0 y1
      unfold isa_parts.j1
      repeat' first
      | (with_reducible exact ih0 _ _)
      | (with_reducible exact ih1 _ _)
      | (with_reducible exact ih2 _ _)
      | (with_reducible exact ih3 _ _)
      | (with_reducible exact ih4 _ _)
      | (with_reducible exact ih5 _ _)
      | (with_reducible exact LeO.refl _)
      | (with_reducible exact LeO.none _)
      | (with_reducible refine LeO.ite ?_ ?_)
      | (with_reducible refine LeO.bind ?_ (fun _ => ?_))
      | exact ih0 _ _
      | exact ih1 _ _
      | exact ih2 _ _
      | exact ih3 _ _
      | exact ih4 _ _
      | exact ih5 _ _
      | exact LeO.none _
      | refine LeO.ite ?_ ?_
      | refine LeO.bind ?_ (fun _ => ?_)
    · intro y0 y1
      unfold isa_parts.j2
      repeat' first
      | (with_reducible exact ih0 _ _)
      | (with_reducible exact ih1 _ _)
      | (with_reducible exact ih2 _ _)
      | (with_reducible exact ih3 _ _)
      | (with_reducible exact ih4 _ _)
      | (with_reducible exact ih5 _ _)
      | (with_reducible exact LeO.refl _)
      | (with_reducible exact LeO.none _)
      | (with_reducible refine LeO.ite ?_ ?_)
      | (with_reducible refine LeO.bind ?_ (fun _ => ?_))
      | exact ih0 _ _
      | exact ih1 _ _
      | exact ih2 _ _
      | exact ih3 _ _
      | exact ih4 _ _
      | exact ih5 _ _
      | exact LeO.none _
      | refine LeO.ite ?_ ?_
      | refine LeO.bind ?_ (fun _ => ?_)
    · intro y0 y1
      unfold isa_parts.j3
      repeat' first
      | (with_reducible exact ih0 _ _)
      | (with_reducible exact ih1 _ _)
      | (with_reducible exact ih2 _ _)
      | (with_reducible exact ih3 _ _)
      | (with_reducible exact ih4 _ _)
      | (with_reducible exact ih5 _ _)
      | (with_reducible exact LeO.refl _)
      | (with_reducible exact LeO.none _)
      | (with_reducible refine LeO.ite ?_ ?_)
      | (with_reducible refine LeO.bind ?_ (fun _ => ?_))
      | exact ih0 _ _
      | exact ih1 _ _
      | exact ih2 _ _
      | exact ih3 _ _
      | exact ih4 _ _
      | exact ih5 _ _
      | exact LeO.none _
      | refine LeO.ite ?_ ?_
      | refine LeO.bind ?_ (fun _ => ?_)
    · intro y0 y1
      unfold isa_parts.j4
      repeat' first
      | (with_reducible exact ih0 _ _)
      | (with_reducible exact ih1 _ _)
      | (with_reducible exact ih2 _ _)
      | (with_reducible exact ih3 _ _)
      | (with_reducible exact ih4 _ _)
      | (with_reducible exact ih5 _ _)
      | (with_reducible exact LeO.refl _)
      | (with_reducible exact LeO.none _)
      | (with_reducible refine LeO.ite ?_ ?_)
      | (with_reducible refine LeO.bind ?_ (fun _ => ?_))
      | exact ih0 _ _
      | exact ih1 _ _
      | exact ih2 _ _
      | exact ih3 _ _
      | exact ih4 _ _
      | exact ih5 _ _
      | exact LeO.none _
      | refine LeO.ite ?_ ?_
      | refine LeO.bind ?_ (fun _ => ?_)
    · intro y0 y1
      unfold isa_parts.j5
      repeat' first
      | (with_reducible exact ih0 _ _)
      | (with_reducible exact ih1 _ _)
      | (with_reducible exact ih2 _ _)
      | (with_reducible exact ih3 _ _)
      | (with_reducible exact ih4 _ _)
      | (with_reducible exact ih5 _ _)
      | (with_reducible exact LeO.refl _)
      | (with_reducible exact LeO.none _)
      | (with_reducible refine LeO.ite ?_ ?_)
      | (with_reducible refine LeO.bind ?_ (fun _ => ?_))
      | exact ih0 _ _
      | exact ih1 _ _
      | exact ih2 _ _
      | exact ih3 _ _
      | exact ih4 _ _
      | exact ih5 _ _
      | exact LeO.none _
      | refine LeO.ite ?_ ?_
      | refine LeO.bind ?_ (fun _ => ?_)
theorem isa_parts.mono : ∀ a0 k, LeO (isa_parts.f k a0) (isa_parts.f (k + 1) a0) := by
  intro a0 k
  obtain ⟨ih0, ih1, ih2, ih3, ih4, ih5⟩ := isa_parts.mono_l k
  unfold isa_parts.f
  repeat' first
      | (with_reducible exact ih0 _ _)
      | (with_reducible exact ih1 _ _)
      | (with_reducible exact ih2 _ _)
      | (with_reducible exact ih3 _ _)
      | (with_reducible exact ih4 _ _)
      | (with_reducible exact ih5 _ _)
      | (with_reducible exact LeO.refl _)
      | (with_reducible exact LeO.none _)
      | (with_reducible refine LeO.ite ?_ ?_)
      | (with_reducible refine LeO.bind ?_ (fun _ => ?_))
      | exact ih0 _ _
      | exact ih1 _ _
      | exact ih2 _ _
      | exact ih3 _ _
      | exact ih4 _ _
      | exact ih5 _ _
      | exact LeO.none _
      | refine LeO.ite ?_ ?_
      | refine LeO.bind ?_ (fun _ => ?_)
set_option maxHeartbeats 8000000 in
set_option maxRecDepth 100000 in
theorem isa_parts.calls (k : Nat) (a0 : Int) (r : Int) (w : World) (h : isa_parts.f k a0 = some r) :
    Calls Try.prog 30 #[.int .i64 a0] w fun e w' => e = .returned (.int .i64 r) ∧ Drawn0 w w' := by
  have H : (if a0 ≥ 1 then (isa_parts.j0 k a0 (decide (a0 ≤ 19))) else (isa_parts.j0 k a0 false)) = some r := h
  clear h
  have HC2 := Aside0.mk H
  clear H
  go_enter Try.func30, Try.ntmps30
  go_upto_region 1 with (fail)
  go_cut [8] (fun v8 wc => ∃ (kq : Nat) (x8_1 : Bool), v8 = .bool x8_1 ∧ Aside0 (isa_parts.j0 kq a0 x8_1 = some r) ∧ Aside0 (kq ≤ k) ∧ Drawn0 w wc)
  case first =>
    have H := HC2.out
    clear HC2
    by_cases c3 : a0 ≥ 1
    · rw [if_pos c3] at H
      have c3b0 : decide (1 ≤ a0) = true := decide_eq_true c3
      clear c3
      (first | rw [c3b0] | (simp only [i64_w, i32_w]; rw [c3b0]) | skip)
      have H' := Aside0.mk H
      clear H
      go_wp2
      go_meet
      case rel => exact ⟨_, (decide (a0 ≤ 19)), (by first | rfl | (simp; done) | (simp [*]; done)), H', ⟨by first | omega | exact Nat.le_refl _⟩, by repeat (first | exact Drawn0.refl _ | apply Drawn0.step)⟩
    · rw [if_neg c3] at H
      have c3b0 : decide (1 ≤ a0) = false := decide_eq_false c3
      clear c3
      (first | rw [c3b0] | (simp only [i64_w, i32_w]; rw [c3b0]) | skip)
      have H' := Aside0.mk H
      clear H
      go_wp2
      go_meet
      case rel => exact ⟨_, (false), (by first | rfl | (simp; done) | (simp [*]; done)), H', ⟨by first | omega | exact Nat.le_refl _⟩, by repeat (first | exact Drawn0.refl _ | apply Drawn0.step)⟩
  case rest =>
    clear HC2
    try clear p2
    try clear c3
    try clear c3b0
    obtain ⟨kq, x8_1, rfl, HA, HJ1, ⟨mc1, rfl⟩⟩ := hcut
    cases kq with
    | zero => exact absurd HA.out (by simp [isa_parts.j0])
    | succ kj1 =>
      have H := HA.out
      clear HA
      simp only [isa_parts.j0] at H
      by_cases c4 : x8_1 = true
      · subst c4
        have H1 : (some 263) = some r := by rw [if_pos rfl] at H; exact H
        clear H
        have H := H1
        clear H1
        obtain rfl := Option.some.inj H
        go_wp2
        go_ret
        exact ⟨by first | rfl | (simp; done) | (simp [*]; done), by repeat (first | exact Drawn0.refl _ | apply Drawn0.step)⟩
      · replace c4 := Bool.eq_false_iff.mpr c4
        subst c4
        have H1 : (if a0 = 32 then (isa_parts.j1 kj1 a0 (a0 == 32)) else (if a0 = 35 then (isa_parts.j1 kj1 a0 (a0 == 35)) else (isa_parts.j1 kj1 a0 (a0 == 36)))) = some r := by rw [if_neg (show ¬ (false = true) by decide)] at H; exact H
        clear H
        have H := H1
        clear H1
        have HC5 := Aside0.mk H
        clear H
        go_upto_if 10 with (fail)
        go_cut [10] (fun v10 wc => ∃ (kq : Nat) (x10_4 : Bool), v10 = .bool x10_4 ∧ Aside0 (isa_parts.j1 kq a0 x10_4 = some r) ∧ Aside0 (kq ≤ kj1) ∧ Drawn0 w wc)
        case first =>
          have H := HC5.out
          clear HC5
          by_cases c6 : a0 = 32
          · rw [if_pos c6] at H
            have c6b0 : (a0 == 32) = true := beq_iff_eq.mpr c6
            have c6b1 : (a0 != 32) = false := bne_eq_false_iff_eq.mpr c6
            clear c6
            (first | rw [c6b0] | (simp only [i64_w, i32_w]; rw [c6b0]) | skip)
            have H' := Aside0.mk H
            clear H
            go_wp2
            go_meet
            case rel => exact ⟨_, ((a0 == 32)), (by first | rfl | (simp; done) | (simp [*]; done)), H', ⟨by have := HJ1.out; first | omega | exact Nat.le_refl _⟩, by repeat (first | exact Drawn0.refl _ | apply Drawn0.step)⟩
          · rw [if_neg c6] at H
            have c6b0 : (a0 == 32) = false := beq_eq_false_iff_ne.mpr c6
            have c6b1 : (a0 != 32) = true := bne_iff_ne.mpr c6
            (first | rw [c6b0] | (simp only [i64_w, i32_w]; rw [c6b0]) | skip)
            by_cases c7 : a0 = 35
            · rw [if_pos c7] at H
              have c7b0 : (a0 == 35) = true := beq_iff_eq.mpr c7
              have c7b1 : (a0 != 35) = false := bne_eq_false_iff_eq.mpr c7
              clear c7
              have H' := Aside0.mk H
              clear H
              go_wp2
              go_meet
              case rel => exact ⟨_, ((a0 == 35)), (by first | rfl | (simp; done) | (simp [*]; done)), H', ⟨by have := HJ1.out; first | omega | exact Nat.le_refl _⟩, by repeat (first | exact Drawn0.refl _ | apply Drawn0.step)⟩
            · rw [if_neg c7] at H
              have c7b0 : (a0 == 35) = false := beq_eq_false_iff_ne.mpr c7
              have c7b1 : (a0 != 35) = true := bne_iff_ne.mpr c7
              have H' := Aside0.mk H
              clear H
              go_wp2
              go_meet
              case rel => exact ⟨_, ((a0 == 36)), (by first | rfl | (simp; done) | (simp [*]; done)), H', ⟨by have := HJ1.out; first | omega | exact Nat.le_refl _⟩, by repeat (first | exact Drawn0.refl _ | apply Drawn0.step)⟩
        case rest =>
          clear HC5
          try clear c1
          try clear p2
          try clear c3
          try clear c3b0
          try clear c4
          try clear c6
          try clear c6b0
          try clear c6b1
          try clear c7
          try clear c7b0
          try clear c7b1
          try clear p2
          obtain ⟨kq, x10_4, rfl, HA, HJ4, ⟨mc4, rfl⟩⟩ := hcut
          cases kq with
          | zero => exact absurd HA.out (by simp [isa_parts.j1])
          | succ kj4 =>
            have H := HA.out
            clear HA
            simp only [isa_parts.j1] at H
            by_cases c8 : x10_4 = true
            · subst c8
              have H1 : (some 267) = some r := by rw [if_pos rfl] at H; exact H
              clear H
              have H := H1
              clear H1
              obtain rfl := Option.some.inj H
              go_wp2
              go_ret
              exact ⟨by first | rfl | (simp; done) | (simp [*]; done), by repeat (first | exact Drawn0.refl _ | apply Drawn0.step)⟩
            · replace c8 := Bool.eq_false_iff.mpr c8
              subst c8
              have H1 : (if a0 = 37 then (isa_parts.j2 kj4 a0 (a0 == 37)) else (isa_parts.j2 kj4 a0 (a0 == 38))) = some r := by rw [if_neg (show ¬ (false = true) by decide)] at H; exact H
              clear H
              have H := H1
              clear H1
              have HC9 := Aside0.mk H
              clear H
              go_upto_if 14 with (fail)
              go_cut [14] (fun v14 wc => ∃ (kq : Nat) (x14_8 : Bool), v14 = .bool x14_8 ∧ Aside0 (isa_parts.j2 kq a0 x14_8 = some r) ∧ Aside0 (kq ≤ kj4) ∧ Drawn0 w wc)
              case first =>
                have H := HC9.out
                clear HC9
                by_cases c10 : a0 = 37
                · rw [if_pos c10] at H
                  have c10b0 : (a0 == 37) = true := beq_iff_eq.mpr c10
                  have c10b1 : (a0 != 37) = false := bne_eq_false_iff_eq.mpr c10
                  clear c10
                  (first | rw [c10b0] | (simp only [i64_w, i32_w]; rw [c10b0]) | skip)
                  have H' := Aside0.mk H
                  clear H
                  go_wp2
                  go_meet
                  case rel => exact ⟨_, ((a0 == 37)), (by first | rfl | (simp; done) | (simp [*]; done)), H', ⟨by have := HJ1.out; have := HJ4.out; first | omega | exact Nat.le_refl _⟩, by repeat (first | exact Drawn0.refl _ | apply Drawn0.step)⟩
                · rw [if_neg c10] at H
                  have c10b0 : (a0 == 37) = false := beq_eq_false_iff_ne.mpr c10
                  have c10b1 : (a0 != 37) = true := bne_iff_ne.mpr c10
                  (first | rw [c10b0] | (simp only [i64_w, i32_w]; rw [c10b0]) | skip)
                  have H' := Aside0.mk H
                  clear H
                  go_wp2
                  go_meet
                  case rel => exact ⟨_, ((a0 == 38)), (by first | rfl | (simp; done) | (simp [*]; done)), H', ⟨by have := HJ1.out; have := HJ4.out; first | omega | exact Nat.le_refl _⟩, by repeat (first | exact Drawn0.refl _ | apply Drawn0.step)⟩
              case rest =>
                clear HC9
                try clear c1
                try clear p2
                try clear c3
                try clear c3b0
                try clear c4
                try clear c6
                try clear c6b0
                try clear c6b1
                try clear c7
                try clear c7b0
                try clear c7b1
                try clear c8
                try clear c10
                try clear c10b0
                try clear c10b1
                try clear p2
                obtain ⟨kq, x14_8, rfl, HA, HJ8, ⟨mc8, rfl⟩⟩ := hcut
                cases kq with
                | zero => exact absurd HA.out (by simp [isa_parts.j2])
                | succ kj8 =>
                  have H := HA.out
                  clear HA
                  simp only [isa_parts.j2] at H
                  by_cases c11 : x14_8 = true
                  · subst c11
                    have H1 : (some 139) = some r := by rw [if_pos rfl] at H; exact H
                    clear H
                    have H := H1
                    clear H1
                    obtain rfl := Option.some.inj H
                    go_wp2
                    go_ret
                    exact ⟨by first | rfl | (simp; done) | (simp [*]; done), by repeat (first | exact Drawn0.refl _ | apply Drawn0.step)⟩
                  · replace c11 := Bool.eq_false_iff.mpr c11
                    subst c11
                    have H1 : (if a0 = 33 then (some 265) else (if a0 = 34 then (some 401) else (if a0 = 39 then (isa_parts.j3 kj8 a0 (a0 == 39)) else (isa_parts.j3 kj8 a0 (a0 == 40))))) = some r := by rw [if_neg (show ¬ (false = true) by decide)] at H; exact H
                    clear H
                    have H := H1
                    clear H1
                    by_cases c12 : a0 = 33
                    · rw [if_pos c12] at H
                      have c12b0 : (a0 == 33) = true := beq_iff_eq.mpr c12
                      have c12b1 : (a0 != 33) = false := bne_eq_false_iff_eq.mpr c12
                      clear c12
                      obtain rfl := Option.some.inj H
                      go_wp2
                      go_ret
                      exact ⟨by first | rfl | (simp; done) | (simp [*]; done), by repeat (first | exact Drawn0.refl _ | apply Drawn0.step)⟩
                    · rw [if_neg c12] at H
                      have c12b0 : (a0 == 33) = false := beq_eq_false_iff_ne.mpr c12
                      have c12b1 : (a0 != 33) = true := bne_iff_ne.mpr c12
                      by_cases c13 : a0 = 34
                      · rw [if_pos c13] at H
                        have c13b0 : (a0 == 34) = true := beq_iff_eq.mpr c13
                        have c13b1 : (a0 != 34) = false := bne_eq_false_iff_eq.mpr c13
                        clear c13
                        obtain rfl := Option.some.inj H
                        go_wp2
                        go_ret
                        exact ⟨by first | rfl | (simp; done) | (simp [*]; done), by repeat (first | exact Drawn0.refl _ | apply Drawn0.step)⟩
                      · rw [if_neg c13] at H
                        have c13b0 : (a0 == 34) = false := beq_eq_false_iff_ne.mpr c13
                        have c13b1 : (a0 != 34) = true := bne_iff_ne.mpr c13
                        have HC14 := Aside0.mk H
                        clear H
                        go_upto_if 21 with (fail)
                        go_cut [21] (fun v21 wc => ∃ (kq : Nat) (x21_13 : Bool), v21 = .bool x21_13 ∧ Aside0 (isa_parts.j3 kq a0 x21_13 = some r) ∧ Aside0 (kq ≤ kj8) ∧ Drawn0 w wc)
                        case first =>
                          have H := HC14.out
                          clear HC14
                          by_cases c15 : a0 = 39
                          · rw [if_pos c15] at H
                            have c15b0 : (a0 == 39) = true := beq_iff_eq.mpr c15
                            have c15b1 : (a0 != 39) = false := bne_eq_false_iff_eq.mpr c15
                            clear c15
                            (first | rw [c15b0] | (simp only [i64_w, i32_w]; rw [c15b0]) | skip)
                            have H' := Aside0.mk H
                            clear H
                            go_wp2
                            go_meet
                            case rel => exact ⟨_, ((a0 == 39)), (by first | rfl | (simp; done) | (simp [*]; done)), H', ⟨by have := HJ1.out; have := HJ4.out; have := HJ8.out; first | omega | exact Nat.le_refl _⟩, by repeat (first | exact Drawn0.refl _ | apply Drawn0.step)⟩
                          · rw [if_neg c15] at H
                            have c15b0 : (a0 == 39) = false := beq_eq_false_iff_ne.mpr c15
                            have c15b1 : (a0 != 39) = true := bne_iff_ne.mpr c15
                            (first | rw [c15b0] | (simp only [i64_w, i32_w]; rw [c15b0]) | skip)
                            have H' := Aside0.mk H
                            clear H
                            go_wp2
                            go_meet
                            case rel => exact ⟨_, ((a0 == 40)), (by first | rfl | (simp; done) | (simp [*]; done)), H', ⟨by have := HJ1.out; have := HJ4.out; have := HJ8.out; first | omega | exact Nat.le_refl _⟩, by repeat (first | exact Drawn0.refl _ | apply Drawn0.step)⟩
                        case rest =>
                          clear HC14
                          try clear c1
                          try clear p2
                          try clear c3
                          try clear c3b0
                          try clear c4
                          try clear c6
                          try clear c6b0
                          try clear c6b1
                          try clear c7
                          try clear c7b0
                          try clear c7b1
                          try clear c8
                          try clear c10
                          try clear c10b0
                          try clear c10b1
                          try clear c11
                          try clear c12
                          try clear c12b0
                          try clear c12b1
                          try clear c13
                          try clear c13b0
                          try clear c13b1
                          try clear c15
                          try clear c15b0
                          try clear c15b1
                          try clear p2
                          obtain ⟨kq, x21_13, rfl, HA, HJ13, ⟨mc13, rfl⟩⟩ := hcut
                          cases kq with
                          | zero => exact absurd HA.out (by simp [isa_parts.j3])
                          | succ kj13 =>
                            have H := HA.out
                            clear HA
                            simp only [isa_parts.j3] at H
                            by_cases c16 : x21_13 = true
                            · subst c16
                              have H1 : (some 10) = some r := by rw [if_pos rfl] at H; exact H
                              clear H
                              have H := H1
                              clear H1
                              obtain rfl := Option.some.inj H
                              go_wp2
                              go_ret
                              exact ⟨by first | rfl | (simp; done) | (simp [*]; done), by repeat (first | exact Drawn0.refl _ | apply Drawn0.step)⟩
                            · replace c16 := Bool.eq_false_iff.mpr c16
                              subst c16
                              have H1 : (if a0 = 41 then (isa_parts.j4 kj13 a0 (a0 == 41)) else (isa_parts.j4 kj13 a0 (a0 == 42))) = some r := by rw [if_neg (show ¬ (false = true) by decide)] at H; exact H
                              clear H
                              have H := H1
                              clear H1
                              have HC17 := Aside0.mk H
                              clear H
                              go_upto_if 24 with (fail)
                              go_cut [24] (fun v24 wc => ∃ (kq : Nat) (x24_16 : Bool), v24 = .bool x24_16 ∧ Aside0 (isa_parts.j4 kq a0 x24_16 = some r) ∧ Aside0 (kq ≤ kj13) ∧ Drawn0 w wc)
                              case first =>
                                have H := HC17.out
                                clear HC17
                                by_cases c18 : a0 = 41
                                · rw [if_pos c18] at H
                                  have c18b0 : (a0 == 41) = true := beq_iff_eq.mpr c18
                                  have c18b1 : (a0 != 41) = false := bne_eq_false_iff_eq.mpr c18
                                  clear c18
                                  (first | rw [c18b0] | (simp only [i64_w, i32_w]; rw [c18b0]) | skip)
                                  have H' := Aside0.mk H
                                  clear H
                                  go_wp2
                                  go_meet
                                  case rel => exact ⟨_, ((a0 == 41)), (by first | rfl | (simp; done) | (simp [*]; done)), H', ⟨by have := HJ1.out; have := HJ4.out; have := HJ8.out; have := HJ13.out; first | omega | exact Nat.le_refl _⟩, by repeat (first | exact Drawn0.refl _ | apply Drawn0.step)⟩
                                · rw [if_neg c18] at H
                                  have c18b0 : (a0 == 41) = false := beq_eq_false_iff_ne.mpr c18
                                  have c18b1 : (a0 != 41) = true := bne_iff_ne.mpr c18
                                  (first | rw [c18b0] | (simp only [i64_w, i32_w]; rw [c18b0]) | skip)
                                  have H' := Aside0.mk H
                                  clear H
                                  go_wp2
                                  go_meet
                                  case rel => exact ⟨_, ((a0 == 42)), (by first | rfl | (simp; done) | (simp [*]; done)), H', ⟨by have := HJ1.out; have := HJ4.out; have := HJ8.out; have := HJ13.out; first | omega | exact Nat.le_refl _⟩, by repeat (first | exact Drawn0.refl _ | apply Drawn0.step)⟩
                              case rest =>
                                clear HC17
                                try clear c1
                                try clear p2
                                try clear c3
                                try clear c3b0
                                try clear c4
                                try clear c6
                                try clear c6b0
                                try clear c6b1
                                try clear c7
                                try clear c7b0
                                try clear c7b1
                                try clear c8
                                try clear c10
                                try clear c10b0
                                try clear c10b1
                                try clear c11
                                try clear c12
                                try clear c12b0
                                try clear c12b1
                                try clear c13
                                try clear c13b0
                                try clear c13b1
                                try clear c15
                                try clear c15b0
                                try clear c15b1
                                try clear c16
                                try clear c18
                                try clear c18b0
                                try clear c18b1
                                try clear p2
                                obtain ⟨kq, x24_16, rfl, HA, HJ16, ⟨mc16, rfl⟩⟩ := hcut
                                cases kq with
                                | zero => exact absurd HA.out (by simp [isa_parts.j4])
                                | succ kj16 =>
                                  have H := HA.out
                                  clear HA
                                  simp only [isa_parts.j4] at H
                                  by_cases c19 : x24_16 = true
                                  · subst c19
                                    have H1 : (some 32) = some r := by rw [if_pos rfl] at H; exact H
                                    clear H
                                    have H := H1
                                    clear H1
                                    obtain rfl := Option.some.inj H
                                    go_wp2
                                    go_ret
                                    exact ⟨by first | rfl | (simp; done) | (simp [*]; done), by repeat (first | exact Drawn0.refl _ | apply Drawn0.step)⟩
                                  · replace c19 := Bool.eq_false_iff.mpr c19
                                    subst c19
                                    have H1 : (if a0 = 43 then (isa_parts.j5 kj16 a0 (a0 == 43)) else (if a0 = 45 then (isa_parts.j5 kj16 a0 (a0 == 45)) else (isa_parts.j5 kj16 a0 (a0 == 47)))) = some r := by rw [if_neg (show ¬ (false = true) by decide)] at H; exact H
                                    clear H
                                    have H := H1
                                    clear H1
                                    have HC20 := Aside0.mk H
                                    clear H
                                    go_upto_if 27 with (fail)
                                    go_cut [27] (fun v27 wc => ∃ (kq : Nat) (x27_19 : Bool), v27 = .bool x27_19 ∧ Aside0 (isa_parts.j5 kq a0 x27_19 = some r) ∧ Aside0 (kq ≤ kj16) ∧ Drawn0 w wc)
                                    case first =>
                                      have H := HC20.out
                                      clear HC20
                                      by_cases c21 : a0 = 43
                                      · rw [if_pos c21] at H
                                        have c21b0 : (a0 == 43) = true := beq_iff_eq.mpr c21
                                        have c21b1 : (a0 != 43) = false := bne_eq_false_iff_eq.mpr c21
                                        clear c21
                                        (first | rw [c21b0] | (simp only [i64_w, i32_w]; rw [c21b0]) | skip)
                                        have H' := Aside0.mk H
                                        clear H
                                        go_wp2
                                        go_meet
                                        case rel => exact ⟨_, ((a0 == 43)), (by first | rfl | (simp; done) | (simp [*]; done)), H', ⟨by have := HJ1.out; have := HJ4.out; have := HJ8.out; have := HJ13.out; have := HJ16.out; first | omega | exact Nat.le_refl _⟩, by repeat (first | exact Drawn0.refl _ | apply Drawn0.step)⟩
                                      · rw [if_neg c21] at H
                                        have c21b0 : (a0 == 43) = false := beq_eq_false_iff_ne.mpr c21
                                        have c21b1 : (a0 != 43) = true := bne_iff_ne.mpr c21
                                        (first | rw [c21b0] | (simp only [i64_w, i32_w]; rw [c21b0]) | skip)
                                        by_cases c22 : a0 = 45
                                        · rw [if_pos c22] at H
                                          have c22b0 : (a0 == 45) = true := beq_iff_eq.mpr c22
                                          have c22b1 : (a0 != 45) = false := bne_eq_false_iff_eq.mpr c22
                                          clear c22
                                          have H' := Aside0.mk H
                                          clear H
                                          go_wp2
                                          go_meet
                                          case rel => exact ⟨_, ((a0 == 45)), (by first | rfl | (simp; done) | (simp [*]; done)), H', ⟨by have := HJ1.out; have := HJ4.out; have := HJ8.out; have := HJ13.out; have := HJ16.out; first | omega | exact Nat.le_refl _⟩, by repeat (first | exact Drawn0.refl _ | apply Drawn0.step)⟩
                                        · rw [if_neg c22] at H
                                          have c22b0 : (a0 == 45) = false := beq_eq_false_iff_ne.mpr c22
                                          have c22b1 : (a0 != 45) = true := bne_iff_ne.mpr c22
                                          have H' := Aside0.mk H
                                          clear H
                                          go_wp2
                                          go_meet
                                          case rel => exact ⟨_, ((a0 == 47)), (by first | rfl | (simp; done) | (simp [*]; done)), H', ⟨by have := HJ1.out; have := HJ4.out; have := HJ8.out; have := HJ13.out; have := HJ16.out; first | omega | exact Nat.le_refl _⟩, by repeat (first | exact Drawn0.refl _ | apply Drawn0.step)⟩
                                    case rest =>
                                      clear HC20
                                      try clear c1
                                      try clear c2
                                      try clear p2
                                      try clear c3
                                      try clear c3b0
                                      try clear c4
                                      try clear c6
                                      try clear c6b0
                                      try clear c6b1
                                      try clear c7
                                      try clear c7b0
                                      try clear c7b1
                                      try clear c8
                                      try clear c10
                                      try clear c10b0
                                      try clear c10b1
                                      try clear c11
                                      try clear c12
                                      try clear c12b0
                                      try clear c12b1
                                      try clear c13
                                      try clear c13b0
                                      try clear c13b1
                                      try clear c15
                                      try clear c15b0
                                      try clear c15b1
                                      try clear c16
                                      try clear c18
                                      try clear c18b0
                                      try clear c18b1
                                      try clear c19
                                      try clear c21
                                      try clear c21b0
                                      try clear c21b1
                                      try clear c22
                                      try clear c22b0
                                      try clear c22b1
                                      try clear p2
                                      obtain ⟨kq, x27_19, rfl, HA, HJ19, ⟨mc19, rfl⟩⟩ := hcut
                                      cases kq with
                                      | zero => exact absurd HA.out (by simp [isa_parts.j5])
                                      | succ kj19 =>
                                        have H := HA.out
                                        clear HA
                                        simp only [isa_parts.j5] at H
                                        by_cases c23 : x27_19 = true
                                        · subst c23
                                          have H1 : (some 2) = some r := by rw [if_pos rfl] at H; exact H
                                          clear H
                                          have H := H1
                                          clear H1
                                          obtain rfl := Option.some.inj H
                                          go_wp2
                                          go_ret
                                          exact ⟨by first | rfl | (simp; done) | (simp [*]; done), by repeat (first | exact Drawn0.refl _ | apply Drawn0.step)⟩
                                        · replace c23 := Bool.eq_false_iff.mpr c23
                                          subst c23
                                          have H1 : (if a0 = 44 then (some 257) else (if a0 = 46 then (some 64) else (some 0))) = some r := by rw [if_neg (show ¬ (false = true) by decide)] at H; exact H
                                          clear H
                                          have H := H1
                                          clear H1
                                          by_cases c24 : a0 = 44
                                          · rw [if_pos c24] at H
                                            have c24b0 : (a0 == 44) = true := beq_iff_eq.mpr c24
                                            have c24b1 : (a0 != 44) = false := bne_eq_false_iff_eq.mpr c24
                                            clear c24
                                            obtain rfl := Option.some.inj H
                                            go_wp2
                                            go_ret
                                            exact ⟨by first | rfl | (simp; done) | (simp [*]; done), by repeat (first | exact Drawn0.refl _ | apply Drawn0.step)⟩
                                          · rw [if_neg c24] at H
                                            have c24b0 : (a0 == 44) = false := beq_eq_false_iff_ne.mpr c24
                                            have c24b1 : (a0 != 44) = true := bne_iff_ne.mpr c24
                                            by_cases c25 : a0 = 46
                                            · rw [if_pos c25] at H
                                              have c25b0 : (a0 == 46) = true := beq_iff_eq.mpr c25
                                              have c25b1 : (a0 != 46) = false := bne_eq_false_iff_eq.mpr c25
                                              clear c25
                                              obtain rfl := Option.some.inj H
                                              go_wp2
                                              go_ret
                                              exact ⟨by first | rfl | (simp; done) | (simp [*]; done), by repeat (first | exact Drawn0.refl _ | apply Drawn0.step)⟩
                                            · rw [if_neg c25] at H
                                              have c25b0 : (a0 == 46) = false := beq_eq_false_iff_ne.mpr c25
                                              have c25b1 : (a0 != 46) = true := bne_iff_ne.mpr c25
                                              obtain rfl := Option.some.inj H
                                              go_wp2
                                              go_ret
                                              exact ⟨by first | rfl | (simp; done) | (simp [*]; done), by repeat (first | exact Drawn0.refl _ | apply Drawn0.step)⟩

/-! ### isa_register: function 37 -/
def isa_register.f (a0 : Int) (a1 : Bool) : Option (Bool) := if a0 ≥ 0 then (if a0 < 16 then (if a1 = true then (some true) else (some (a0 == 0))) else (some false)) else (some false)
set_option maxHeartbeats 8000000 in
set_option maxRecDepth 100000 in
theorem isa_register.calls (a0 : Int) (a1 : Bool) (r : Bool) (w : World) (h : isa_register.f a0 a1 = some r) :
    Calls Try.prog 37 #[.int .i64 a0, .bool a1] w fun e w' => e = .returned (.bool r) ∧ Drawn0 w w' := by
  have H : (if a0 ≥ 0 then (if a0 < 16 then (if a1 = true then (some true) else (some (a0 == 0))) else (some false)) else (some false)) = some r := h
  clear h
  by_cases c3 : a0 ≥ 0
  · rw [if_pos c3] at H
    have c3b0 : decide (0 ≤ a0) = true := decide_eq_true c3
    clear c3
    by_cases c4 : a0 < 16
    · rw [if_pos c4] at H
      have c4b0 : decide (a0 < 16) = true := decide_eq_true c4
      clear c4
      by_cases c5 : a1 = true
      · subst c5
        have H1 : (some true) = some r := by rw [if_pos rfl] at H; exact H
        clear H
        have H := H1
        clear H1
        obtain rfl := Option.some.inj H
        go_enter Try.func37, Try.ntmps37
        go_wp2
        go_ret
        exact ⟨by first | rfl | (simp; done) | (simp [*]; done), by repeat (first | exact Drawn0.refl _ | apply Drawn0.step)⟩
      · replace c5 := Bool.eq_false_iff.mpr c5
        subst c5
        have H1 : (some (a0 == 0)) = some r := by rw [if_neg (show ¬ (false = true) by decide)] at H; exact H
        clear H
        have H := H1
        clear H1
        obtain rfl := Option.some.inj H
        go_enter Try.func37, Try.ntmps37
        go_wp2
        go_ret
        exact ⟨by first | rfl | (simp; done) | (simp [*]; done), by repeat (first | exact Drawn0.refl _ | apply Drawn0.step)⟩
    · rw [if_neg c4] at H
      have c4b0 : decide (a0 < 16) = false := decide_eq_false c4
      clear c4
      obtain rfl := Option.some.inj H
      go_enter Try.func37, Try.ntmps37
      go_wp2
      go_ret
      exact ⟨by first | rfl | (simp; done) | (simp [*]; done), by repeat (first | exact Drawn0.refl _ | apply Drawn0.step)⟩
  · rw [if_neg c3] at H
    have c3b0 : decide (0 ≤ a0) = false := decide_eq_false c3
    clear c3
    obtain rfl := Option.some.inj H
    go_enter Try.func37, Try.ntmps37
    go_wp2
    go_ret
    exact ⟨by first | rfl | (simp; done) | (simp [*]; done), by repeat (first | exact Drawn0.refl _ | apply Drawn0.step)⟩

/-! ### isa_within: function 38 -/
def isa_within.f (a0 : Int) (a1 : Int) : Option (Bool) := if (Go.bits .and .i64 a1 8) = 0 then (if (Go.bits .and .i64 a1 16) = 0 then (if (Go.bits .and .i64 a1 32) = 0 then (if (Go.bits .and .i64 a1 64) = 0 then (some (a0 == 0)) else (if a0 ≥ 1 then (some (decide (a0 ≤ 5))) else (some false))) else (if a0 ≥ (-8388608) then (some (decide (a0 < 8388608))) else (some false))) else (if a0 ≥ 0 then (some (decide (a0 < 65536))) else (some false))) else (if a0 ≥ (-32768) then (some (decide (a0 < 32768))) else (some false))
set_option maxHeartbeats 8000000 in
set_option maxRecDepth 100000 in
theorem isa_within.calls (a0 : Int) (a1 : Int) (r : Bool) (w : World) (h : isa_within.f a0 a1 = some r) :
    Calls Try.prog 38 #[.int .i32 a0, .int .i64 a1] w fun e w' => e = .returned (.bool r) ∧ Drawn0 w w' := by
  have H : (if (Go.bits .and .i64 a1 8) = 0 then (if (Go.bits .and .i64 a1 16) = 0 then (if (Go.bits .and .i64 a1 32) = 0 then (if (Go.bits .and .i64 a1 64) = 0 then (some (a0 == 0)) else (if a0 ≥ 1 then (some (decide (a0 ≤ 5))) else (some false))) else (if a0 ≥ (-8388608) then (some (decide (a0 < 8388608))) else (some false))) else (if a0 ≥ 0 then (some (decide (a0 < 65536))) else (some false))) else (if a0 ≥ (-32768) then (some (decide (a0 < 32768))) else (some false))) = some r := h
  clear h
  by_cases c3 : (Go.bits .and .i64 a1 8) = 0
  · rw [if_pos c3] at H
    have c3b0 : ((Go.bits .and .i64 a1 8) == 0) = true := beq_iff_eq.mpr c3
    have c3b1 : ((Go.bits .and .i64 a1 8) != 0) = false := bne_eq_false_iff_eq.mpr c3
    clear c3
    by_cases c4 : (Go.bits .and .i64 a1 16) = 0
    · rw [if_pos c4] at H
      have c4b0 : ((Go.bits .and .i64 a1 16) == 0) = true := beq_iff_eq.mpr c4
      have c4b1 : ((Go.bits .and .i64 a1 16) != 0) = false := bne_eq_false_iff_eq.mpr c4
      clear c4
      by_cases c5 : (Go.bits .and .i64 a1 32) = 0
      · rw [if_pos c5] at H
        have c5b0 : ((Go.bits .and .i64 a1 32) == 0) = true := beq_iff_eq.mpr c5
        have c5b1 : ((Go.bits .and .i64 a1 32) != 0) = false := bne_eq_false_iff_eq.mpr c5
        clear c5
        by_cases c6 : (Go.bits .and .i64 a1 64) = 0
        · rw [if_pos c6] at H
          have c6b0 : ((Go.bits .and .i64 a1 64) == 0) = true := beq_iff_eq.mpr c6
          have c6b1 : ((Go.bits .and .i64 a1 64) != 0) = false := bne_eq_false_iff_eq.mpr c6
          clear c6
          obtain rfl := Option.some.inj H
          go_enter Try.func38, Try.ntmps38
          go_wp2
          go_ret
          exact ⟨by first | rfl | (simp; done) | (simp [*]; done), by repeat (first | exact Drawn0.refl _ | apply Drawn0.step)⟩
        · rw [if_neg c6] at H
          have c6b0 : ((Go.bits .and .i64 a1 64) == 0) = false := beq_eq_false_iff_ne.mpr c6
          have c6b1 : ((Go.bits .and .i64 a1 64) != 0) = true := bne_iff_ne.mpr c6
          by_cases c7 : a0 ≥ 1
          · rw [if_pos c7] at H
            have c7b0 : decide (1 ≤ a0) = true := decide_eq_true c7
            clear c7
            obtain rfl := Option.some.inj H
            go_enter Try.func38, Try.ntmps38
            go_wp2
            go_ret
            exact ⟨by first | rfl | (simp; done) | (simp [*]; done), by repeat (first | exact Drawn0.refl _ | apply Drawn0.step)⟩
          · rw [if_neg c7] at H
            have c7b0 : decide (1 ≤ a0) = false := decide_eq_false c7
            clear c7
            obtain rfl := Option.some.inj H
            go_enter Try.func38, Try.ntmps38
            go_wp2
            go_ret
            exact ⟨by first | rfl | (simp; done) | (simp [*]; done), by repeat (first | exact Drawn0.refl _ | apply Drawn0.step)⟩
      · rw [if_neg c5] at H
        have c5b0 : ((Go.bits .and .i64 a1 32) == 0) = false := beq_eq_false_iff_ne.mpr c5
        have c5b1 : ((Go.bits .and .i64 a1 32) != 0) = true := bne_iff_ne.mpr c5
        by_cases c8 : a0 ≥ (-8388608)
        · rw [if_pos c8] at H
          have c8b0 : decide ((-8388608) ≤ a0) = true := decide_eq_true c8
          clear c8
          obtain rfl := Option.some.inj H
          go_enter Try.func38, Try.ntmps38
          go_wp2
          go_ret
          exact ⟨by first | rfl | (simp; done) | (simp [*]; done), by repeat (first | exact Drawn0.refl _ | apply Drawn0.step)⟩
        · rw [if_neg c8] at H
          have c8b0 : decide ((-8388608) ≤ a0) = false := decide_eq_false c8
          clear c8
          obtain rfl := Option.some.inj H
          go_enter Try.func38, Try.ntmps38
          go_wp2
          go_ret
          exact ⟨by first | rfl | (simp; done) | (simp [*]; done), by repeat (first | exact Drawn0.refl _ | apply Drawn0.step)⟩
    · rw [if_neg c4] at H
      have c4b0 : ((Go.bits .and .i64 a1 16) == 0) = false := beq_eq_false_iff_ne.mpr c4
      have c4b1 : ((Go.bits .and .i64 a1 16) != 0) = true := bne_iff_ne.mpr c4
      by_cases c9 : a0 ≥ 0
      · rw [if_pos c9] at H
        have c9b0 : decide (0 ≤ a0) = true := decide_eq_true c9
        clear c9
        obtain rfl := Option.some.inj H
        go_enter Try.func38, Try.ntmps38
        go_wp2
        go_ret
        exact ⟨by first | rfl | (simp; done) | (simp [*]; done), by repeat (first | exact Drawn0.refl _ | apply Drawn0.step)⟩
      · rw [if_neg c9] at H
        have c9b0 : decide (0 ≤ a0) = false := decide_eq_false c9
        clear c9
        obtain rfl := Option.some.inj H
        go_enter Try.func38, Try.ntmps38
        go_wp2
        go_ret
        exact ⟨by first | rfl | (simp; done) | (simp [*]; done), by repeat (first | exact Drawn0.refl _ | apply Drawn0.step)⟩
  · rw [if_neg c3] at H
    have c3b0 : ((Go.bits .and .i64 a1 8) == 0) = false := beq_eq_false_iff_ne.mpr c3
    have c3b1 : ((Go.bits .and .i64 a1 8) != 0) = true := bne_iff_ne.mpr c3
    by_cases c10 : a0 ≥ (-32768)
    · rw [if_pos c10] at H
      have c10b0 : decide ((-32768) ≤ a0) = true := decide_eq_true c10
      clear c10
      obtain rfl := Option.some.inj H
      go_enter Try.func38, Try.ntmps38
      go_wp2
      go_ret
      exact ⟨by first | rfl | (simp; done) | (simp [*]; done), by repeat (first | exact Drawn0.refl _ | apply Drawn0.step)⟩
    · rw [if_neg c10] at H
      have c10b0 : decide ((-32768) ≤ a0) = false := decide_eq_false c10
      clear c10
      obtain rfl := Option.some.inj H
      go_enter Try.func38, Try.ntmps38
      go_wp2
      go_ret
      exact ⟨by first | rfl | (simp; done) | (simp [*]; done), by repeat (first | exact Drawn0.refl _ | apply Drawn0.step)⟩

end Go.Proofs.Ytdhmnjoceeolcaa.GF
