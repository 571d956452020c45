/- Texts laid together for a claim. -/
import Derived.Test.YtdhmnjoceeolcaaPb3
section
namespace Go.Proofs.Ytdhmnjoceeolcaa.GF
open Go.RowKit Go.Proofs.YtdhmnjoceeolcaaW.PrintWords Go.Proofs.YtdhmnjoceeolcaaW.PrintLast Go.Proofs.YtdhmnjoceeolcaaW.PrintMore
attribute [local go_sem] max2_int min2_int max_two min_two max_three min_three max_four min_four   -- for this text's walks alone
set_option linter.unusedVariables false
set_option linter.unusedSimpArgs false
mutual
def crucibleref06_sorted.l0 : Nat → List (S37) → List Int → List Int → List Int → Option (List Int)
  | 0, _, _, _, _ => none
  | k + 1, x0, x8, x9, x10 => if (x8.length : Int) > 0 then (crucibleref06_sorted.j1 k x0 x8 x9 x10 (decide ((x9.length : Int) > 0))) else (crucibleref06_sorted.j1 k x0 x8 x9 x10 false)
def crucibleref06_sorted.j1 : Nat → List (S37) → List Int → List Int → List Int → Bool → Option (List Int)
  | 0, _, _, _, _, _ => none
  | k + 1, x0, x8, x9, x10, x48 => if x48 = true then (if 0 < (x9.length : Int) then (if 0 ≤ (rd x9 0) then (if (rd x9 0) < (x0.length : Int) then (if 0 < (x8.length : Int) then (if 0 ≤ (rd x8 0) then (if (rd x8 0) < (x0.length : Int) then (if ((rd_T37 x0 (rd x9 0)).f0) < ((rd_T37 x0 (rd x8 0)).f0) then (if x10.length < 17592186044416 then (if 1 ≤ (x9.length : Int) then (crucibleref06_sorted.l0 k x0 x8 (x9.drop (1 : Int).toNat) (x10 ++ [rd x9 0])) else (none)) else (none)) else (if x10.length < 17592186044416 then (if 1 ≤ (x8.length : Int) then (crucibleref06_sorted.l0 k x0 (x8.drop (1 : Int).toNat) x9 (x10 ++ [rd x8 0])) else (none)) else (none))) else (none)) else (none)) else (none)) else (none)) else (none)) else (none)) else (if x10.length + x8.length < 17592186044416 then ((some (x10 ++ x8 : List Int)).bind fun y207 => (if y207.length + x9.length < 17592186044416 then (some (y207 ++ x9)) else (none))) else (none))
def crucibleref06_sorted.f : Nat → List (S37) → Int → Int → Option (List Int)
  | 0, _, _, _ => none
  | k + 1, l0, a1, a2 => if (wrap64 (a2 - a1)) < 1 then (some ([] : List Int)) else (if (wrap64 (a2 - a1)) = 1 then (if 0 ≤ a1 then (if a1 < (l0.length : Int) then (if ((rd_T37 l0 a1).f0) > 0 then (some (([a1] : List Int))) else (some ([] : List Int))) else (none)) else (none)) else ((crucibleref06_sorted.f k l0 a1 (wrap64 (a1 + (wrap64 (Int.tdiv (wrap64 (a2 - a1)) 2))))).bind fun t183 => ((crucibleref06_sorted.f k l0 (wrap64 (a1 + (wrap64 (Int.tdiv (wrap64 (a2 - a1)) 2)))) a2).bind fun t186 => (crucibleref06_sorted.l0 k l0 t183 t186 ([] : List Int)))))
end
set_option maxHeartbeats 8000000 in
set_option maxRecDepth 100000 in
theorem crucibleref06_sorted.calls (k : Nat) : ∀ (A0 : Option Addr) (c0 : Nat) (l0 : List (S37)) (a1 : Int) (a2 : Int) (r : List Int) (w : World) (hr0 : Kd.C k37 w A0 l0.length l0) (hc0 : l0.length ≤ c0) (h : crucibleref06_sorted.f k l0 a1 a2 = some r),
    Calls Try.prog 25 #[.slice A0 l0.length c0, .int .i64 a1, .int .i64 a2] w fun e w' => ∃ v0_ : Value, e = .returned (v0_) ∧ Kd.R (Kd.int .i64) 3 w' w.heap.size (fun _ => True) v0_ r ∧ Below w.heap.size w w' := by
  induction k using Nat.strongRecOn with
  | _ k ih =>
  intro A0 c0 l0 a1 a2 r w hr0 hc0 h
  cases k with
  | zero => exact absurd h (by simp [crucibleref06_sorted.f])
  | succ k =>
  simp only [crucibleref06_sorted.f] at h
  have HR0 := Aside0.mk hr0
  have HC0 := Aside0.mk hc0
  clear hr0 hc0
  have HB := Aside0.mk (Below.refl w.heap.size w)
  have H : (if (wrap64 (a2 - a1)) < 1 then (some ([] : List Int)) else (if (wrap64 (a2 - a1)) = 1 then (if 0 ≤ a1 then (if a1 < (l0.length : Int) then (if ((rd_T37 l0 a1).f0) > 0 then (some (([a1] : List Int))) else (some ([] : List Int))) else (none)) else (none)) else ((crucibleref06_sorted.f k l0 a1 (wrap64 (a1 + (wrap64 (Int.tdiv (wrap64 (a2 - a1)) 2))))).bind fun t183 => ((crucibleref06_sorted.f k l0 (wrap64 (a1 + (wrap64 (Int.tdiv (wrap64 (a2 - a1)) 2)))) a2).bind fun t186 => (crucibleref06_sorted.l0 k l0 t183 t186 ([] : List Int)))))) = some r := h
  clear h
  by_cases c4 : (wrap64 (a2 - a1)) < 1
  · rw [if_pos c4] at H
    have c4b0 : decide ((wrap64 (a2 - a1)) < 1) = true := decide_eq_true c4
    clear c4
    obtain rfl := Option.some.inj H
    go_enter Try.func25, Try.ntmps25
    go_wp2
    repeat (go_quiet (fail); try go_wp2)
    go_ret
    exact ⟨_, by first | rfl | (simp [errW_none, errW_some] <;> rfl) | (simp [*, errW_none, errW_some] <;> rfl), by first | exact Kd.R_nil _ _ _ _ _ | exact Kd.N_nil _ _ _ _ _ | exact Kd.V_nil _ _ _ _ _ | exact Kd.Q_nil _ _ _ _ _ | exact Kd.S_nil _ _ _ _ _, by repeat (first | (with_reducible first | exact HB.out | apply below_alloc | apply pw_below_drewN | apply below_drew1) | exact HB.out)⟩
  · rw [if_neg c4] at H
    have c4b0 : decide ((wrap64 (a2 - a1)) < 1) = false := decide_eq_false c4
    clear c4
    by_cases c5 : (wrap64 (a2 - a1)) = 1
    · rw [if_pos c5] at H
      have c5b0 : ((wrap64 (a2 - a1)) == 1) = true := beq_iff_eq.mpr c5
      have c5b1 : ((wrap64 (a2 - a1)) != 1) = false := bne_eq_false_iff_eq.mpr c5
      clear c5
      by_cases c6 : 0 ≤ a1
      · rw [if_pos c6] at H
        have c6b0 : decide (0 ≤ a1) = true := decide_eq_true c6
        clear c6
        by_cases c7 : a1 < (l0.length : Int)
        · rw [if_pos c7] at H
          have c7b0 : decide (a1 < (l0.length : Int)) = true := decide_eq_true c7
          clear c7
          by_cases c8 : ((rd_T37 l0 a1).f0) > 0
          · rw [if_pos c8] at H
            have c8b0 : decide (0 < ((rd_T37 l0 a1).f0)) = true := decide_eq_true c8
            clear c8
            obtain ⟨y180, hy180⟩ : ∃ y_ : List Int, y_ = (([a1] : List Int)) := ⟨_, rfl⟩
            replace H : (some y180) = some r := by first | (rw [hy180]; with_reducible exact H) | (have H2_ := (Option.bind_some _ _).symm.trans H; rw [hy180]; with_reducible exact H2_) | (have H2_ := (Option.bind_some _ _).symm.trans H; with_reducible exact H2_) | with_reducible exact H | (rw [hy180]; exact H) | exact H
            have Ny180 := Aside0.mk hy180
            clear hy180
            obtain rfl := Option.some.inj H
            have p179 : 0 ≤ (a1 : Int) := of_decide_eq_true (by first | (with_reducible assumption) | assumption)
            have q179 : a1 < (l0.length : Int) := of_decide_eq_true (by first | (with_reducible assumption) | assumption)
            obtain ⟨ad179, e179, hx179_0, hx179_1, hx179_2, hx179_3, hx179_4, hx179_5, hx179_6⟩ := at_T37 HR0.out a1 p179 q179
            cases e179
            replace p179 := eq_true p179
            replace q179 := eq_true q179
            go_enter Try.func25, Try.ntmps25
            go_wp2_with (first | ((with_reducible refine gate_dst (N := 26) rfl ?_); (try (refine gate_guard (by rfl) ?_; dsimp only)); refine Kd.R_lit (Kd.int .i64) _ 3 ?hg (N := 26) ?hd (xs := ([a1] : List Int)) (inner := [.int .i64 a1]) (ok := fun _ => True) (okp := fun _ => True) ?hr ?hp (fun _ hk => hk) trivial (Below.refl _ _) (Nat.le_refl _) (by simp) ?_; (case hd => rfl); (case hg => rfl); (case hr => first | (go_simp; done) | (go_simp; rfl)); (case hp => exact (Reps.one (show Kd.M (Kd.int .i64) _ _ _ a1 [.int .i64 a1] from rfl) (Reps.none _ _))); intro v181 w9 ho10 hb hg_ hnew_; clear hg_ hnew_; (first | rw [← Ny180.out] at ho10 | (simp only [Int.reduceToNat] at ho10; rw [← Ny180.out] at ho10)); have n0_ := Aside0.mk (Kd.R_lower ho10 (below_size (by repeat (first | (with_reducible first | exact HB.out | apply below_alloc | apply pw_below_drewN | apply below_drew1) | exact HB.out)))); have n1_ := Aside0.mk (below_step (by repeat (first | (with_reducible first | exact HB.out | apply below_alloc | apply pw_below_drewN | apply below_drew1) | exact HB.out)) hb); clear HB; have HO182 := n0_; have HB := n1_; clear n0_ n1_; clear hb ho10))
            repeat (go_quiet (first | ((with_reducible refine gate_dst (N := 26) rfl ?_); (try (refine gate_guard (by rfl) ?_; dsimp only)); refine Kd.R_lit (Kd.int .i64) _ 3 ?hg (N := 26) ?hd (xs := ([a1] : List Int)) (inner := [.int .i64 a1]) (ok := fun _ => True) (okp := fun _ => True) ?hr ?hp (fun _ hk => hk) trivial (Below.refl _ _) (Nat.le_refl _) (by simp) ?_; (case hd => rfl); (case hg => rfl); (case hr => first | (go_simp; done) | (go_simp; rfl)); (case hp => exact (Reps.one (show Kd.M (Kd.int .i64) _ _ _ a1 [.int .i64 a1] from rfl) (Reps.none _ _))); intro v181 w9 ho10 hb hg_ hnew_; clear hg_ hnew_; (first | rw [← Ny180.out] at ho10 | (simp only [Int.reduceToNat] at ho10; rw [← Ny180.out] at ho10)); have n0_ := Aside0.mk (Kd.R_lower ho10 (below_size (by repeat (first | (with_reducible first | exact HB.out | apply below_alloc | apply pw_below_drewN | apply below_drew1) | exact HB.out)))); have n1_ := Aside0.mk (below_step (by repeat (first | (with_reducible first | exact HB.out | apply below_alloc | apply pw_below_drewN | apply below_drew1) | exact HB.out)) hb); clear HB; have HO182 := n0_; have HB := n1_; clear n0_ n1_; clear hb ho10)); try go_wp2_with (first | ((with_reducible refine gate_dst (N := 26) rfl ?_); (try (refine gate_guard (by rfl) ?_; dsimp only)); refine Kd.R_lit (Kd.int .i64) _ 3 ?hg (N := 26) ?hd (xs := ([a1] : List Int)) (inner := [.int .i64 a1]) (ok := fun _ => True) (okp := fun _ => True) ?hr ?hp (fun _ hk => hk) trivial (Below.refl _ _) (Nat.le_refl _) (by simp) ?_; (case hd => rfl); (case hg => rfl); (case hr => first | (go_simp; done) | (go_simp; rfl)); (case hp => exact (Reps.one (show Kd.M (Kd.int .i64) _ _ _ a1 [.int .i64 a1] from rfl) (Reps.none _ _))); intro v181 w9 ho10 hb hg_ hnew_; clear hg_ hnew_; (first | rw [← Ny180.out] at ho10 | (simp only [Int.reduceToNat] at ho10; rw [← Ny180.out] at ho10)); have n0_ := Aside0.mk (Kd.R_lower ho10 (below_size (by repeat (first | (with_reducible first | exact HB.out | apply below_alloc | apply pw_below_drewN | apply below_drew1) | exact HB.out)))); have n1_ := Aside0.mk (below_step (by repeat (first | (with_reducible first | exact HB.out | apply below_alloc | apply pw_below_drewN | apply below_drew1) | exact HB.out)) hb); clear HB; have HO182 := n0_; have HB := n1_; clear n0_ n1_; clear hb ho10)))
            go_ret
            exact ⟨_, by first | rfl | (simp [errW_none, errW_some] <;> rfl) | (simp [*, errW_none, errW_some] <;> rfl), by (with_reducible repeat (first | apply Kd.R_alloc | apply Kd.R_drewN | apply Kd.R_drew)); exact HO182.out, by repeat (first | (with_reducible first | exact HB.out | apply below_alloc | apply pw_below_drewN | apply below_drew1) | exact HB.out)⟩
          · rw [if_neg c8] at H
            have c8b0 : decide (0 < ((rd_T37 l0 a1).f0)) = false := decide_eq_false c8
            clear c8
            obtain rfl := Option.some.inj H
            have p179 : 0 ≤ (a1 : Int) := of_decide_eq_true (by first | (with_reducible assumption) | assumption)
            have q179 : a1 < (l0.length : Int) := of_decide_eq_true (by first | (with_reducible assumption) | assumption)
            obtain ⟨ad179, e179, hx179_0, hx179_1, hx179_2, hx179_3, hx179_4, hx179_5, hx179_6⟩ := at_T37 HR0.out a1 p179 q179
            cases e179
            replace p179 := eq_true p179
            replace q179 := eq_true q179
            go_enter Try.func25, Try.ntmps25
            go_wp2
            repeat (go_quiet (fail); try go_wp2)
            go_ret
            exact ⟨_, by first | rfl | (simp [errW_none, errW_some] <;> rfl) | (simp [*, errW_none, errW_some] <;> rfl), by first | exact Kd.R_nil _ _ _ _ _ | exact Kd.N_nil _ _ _ _ _ | exact Kd.V_nil _ _ _ _ _ | exact Kd.Q_nil _ _ _ _ _ | exact Kd.S_nil _ _ _ _ _, by repeat (first | (with_reducible first | exact HB.out | apply below_alloc | apply pw_below_drewN | apply below_drew1) | exact HB.out)⟩
        · rw [if_neg c7] at H
          exact absurd H (by simp)
      · rw [if_neg c6] at H
        exact absurd H (by simp)
    · rw [if_neg c5] at H
      have c5b0 : ((wrap64 (a2 - a1)) == 1) = false := beq_eq_false_iff_ne.mpr c5
      have c5b1 : ((wrap64 (a2 - a1)) != 1) = true := bne_iff_ne.mpr c5
      replace H := Option.bind_eq_some_iff.mp H
      obtain ⟨t183, A110, H⟩ := H
      replace H : ((crucibleref06_sorted.f k l0 (wrap64 (a1 + (wrap64 (Int.tdiv (wrap64 (a2 - a1)) 2)))) a2).bind fun t186 => (crucibleref06_sorted.l0 k l0 t183 t186 ([] : List Int))) = some r := H
      have A11 := Aside0.mk A110
      clear A110
      replace H := Option.bind_eq_some_iff.mp H
      obtain ⟨t186, A120, H⟩ := H
      replace H : (crucibleref06_sorted.l0 k l0 t183 t186 ([] : List Int)) = some r := H
      have A12 := Aside0.mk A120
      clear A120
      have H' := Aside0.mk H
      clear H
      go_enter Try.func25, Try.ntmps25
      go_wp2_with (first | (go_at_call 25; (with_reducible refine (ih k (by omega) _ _ l0 a1 (wrap64 (a1 + (wrap64 (Int.tdiv (wrap64 (a2 - a1)) 2)))) t183 _ ?side1 ?side2 A11.out).mono ?_); (case side1 => repeat (first | exact HR0.out | (with_reducible refine Kd.C_alloc ?_ _) | (with_reducible refine Kd.C_drewN ?_ _) | (with_reducible refine Kd.C_drew ?_))); (case side2 => exact HC0.out); rintro e w13 ⟨v184, rfl, ho0, hb⟩; have n0_ := Aside0.mk (Kd.R_lower ho0 (below_size (by repeat (first | (with_reducible first | exact HB.out | apply below_alloc | apply pw_below_drewN | apply below_drew1) | exact HB.out)))); have n1_ := Aside0.mk (below_step (by repeat (first | (with_reducible first | exact HB.out | apply below_alloc | apply pw_below_drewN | apply below_drew1) | exact HB.out)) hb); clear HB; have HO185 := n0_; have HB := n1_; clear n0_ n1_; (try clear hb); (try clear hb2); (try clear hk); (try clear hi); (try clear ho0)) | (go_at_call 25; (with_reducible refine (ih k (by omega) _ _ l0 (wrap64 (a1 + (wrap64 (Int.tdiv (wrap64 (a2 - a1)) 2)))) a2 t186 _ ?side1 ?side2 A12.out).mono ?_); (case side1 => repeat (first | exact (Kd.C_below HR0.out HB.out) | (with_reducible refine Kd.C_alloc ?_ _) | (with_reducible refine Kd.C_drewN ?_ _) | (with_reducible refine Kd.C_drew ?_))); (case side2 => exact HC0.out); rintro e w14 ⟨v187, rfl, ho0, hb⟩; have n0_ := Aside0.mk (Kd.R_elder' (by (with_reducible repeat (first | apply Kd.R_alloc | apply Kd.R_drewN | apply Kd.R_drew)); exact HO185.out) (Kd.R_base ho0) hb); have n1_ := Aside0.mk (Kd.R_lower (Kd.R_new' ho0 (Kd.R_lt (by (with_reducible repeat (first | apply Kd.R_alloc | apply Kd.R_drewN | apply Kd.R_drew)); exact HO185.out))) (below_size (by repeat (first | (with_reducible first | exact HB.out | apply below_alloc | apply pw_below_drewN | apply below_drew1) | exact HB.out)))); have n2_ := Aside0.mk (below_step (by repeat (first | (with_reducible first | exact HB.out | apply below_alloc | apply pw_below_drewN | apply below_drew1) | exact HB.out)) hb); clear HO185; clear HB; have HO185 := n0_; have HO188 := n1_; have HB := n2_; clear n0_ n1_ n2_; (try clear hb); (try clear hb2); (try clear hk); (try clear hi); (try clear ho0)))
      repeat (go_quiet (first | (go_at_call 25; (with_reducible refine (ih k (by omega) _ _ l0 a1 (wrap64 (a1 + (wrap64 (Int.tdiv (wrap64 (a2 - a1)) 2)))) t183 _ ?side1 ?side2 A11.out).mono ?_); (case side1 => repeat (first | exact HR0.out | (with_reducible refine Kd.C_alloc ?_ _) | (with_reducible refine Kd.C_drewN ?_ _) | (with_reducible refine Kd.C_drew ?_))); (case side2 => exact HC0.out); rintro e w13 ⟨v184, rfl, ho0, hb⟩; have n0_ := Aside0.mk (Kd.R_lower ho0 (below_size (by repeat (first | (with_reducible first | exact HB.out | apply below_alloc | apply pw_below_drewN | apply below_drew1) | exact HB.out)))); have n1_ := Aside0.mk (below_step (by repeat (first | (with_reducible first | exact HB.out | apply below_alloc | apply pw_below_drewN | apply below_drew1) | exact HB.out)) hb); clear HB; have HO185 := n0_; have HB := n1_; clear n0_ n1_; (try clear hb); (try clear hb2); (try clear hk); (try clear hi); (try clear ho0)) | (go_at_call 25; (with_reducible refine (ih k (by omega) _ _ l0 (wrap64 (a1 + (wrap64 (Int.tdiv (wrap64 (a2 - a1)) 2)))) a2 t186 _ ?side1 ?side2 A12.out).mono ?_); (case side1 => repeat (first | exact (Kd.C_below HR0.out HB.out) | (with_reducible refine Kd.C_alloc ?_ _) | (with_reducible refine Kd.C_drewN ?_ _) | (with_reducible refine Kd.C_drew ?_))); (case side2 => exact HC0.out); rintro e w14 ⟨v187, rfl, ho0, hb⟩; have n0_ := Aside0.mk (Kd.R_elder' (by (with_reducible repeat (first | apply Kd.R_alloc | apply Kd.R_drewN | apply Kd.R_drew)); exact HO185.out) (Kd.R_base ho0) hb); have n1_ := Aside0.mk (Kd.R_lower (Kd.R_new' ho0 (Kd.R_lt (by (with_reducible repeat (first | apply Kd.R_alloc | apply Kd.R_drewN | apply Kd.R_drew)); exact HO185.out))) (below_size (by repeat (first | (with_reducible first | exact HB.out | apply below_alloc | apply pw_below_drewN | apply below_drew1) | exact HB.out)))); have n2_ := Aside0.mk (below_step (by repeat (first | (with_reducible first | exact HB.out | apply below_alloc | apply pw_below_drewN | apply below_drew1) | exact HB.out)) hb); clear HO185; clear HB; have HO185 := n0_; have HO188 := n1_; have HB := n2_; clear n0_ n1_ n2_; (try clear hb); (try clear hb2); (try clear hk); (try clear hi); (try clear ho0))); try go_wp2_with (first | (go_at_call 25; (with_reducible refine (ih k (by omega) _ _ l0 a1 (wrap64 (a1 + (wrap64 (Int.tdiv (wrap64 (a2 - a1)) 2)))) t183 _ ?side1 ?side2 A11.out).mono ?_); (case side1 => repeat (first | exact HR0.out | (with_reducible refine Kd.C_alloc ?_ _) | (with_reducible refine Kd.C_drewN ?_ _) | (with_reducible refine Kd.C_drew ?_))); (case side2 => exact HC0.out); rintro e w13 ⟨v184, rfl, ho0, hb⟩; have n0_ := Aside0.mk (Kd.R_lower ho0 (below_size (by repeat (first | (with_reducible first | exact HB.out | apply below_alloc | apply pw_below_drewN | apply below_drew1) | exact HB.out)))); have n1_ := Aside0.mk (below_step (by repeat (first | (with_reducible first | exact HB.out | apply below_alloc | apply pw_below_drewN | apply below_drew1) | exact HB.out)) hb); clear HB; have HO185 := n0_; have HB := n1_; clear n0_ n1_; (try clear hb); (try clear hb2); (try clear hk); (try clear hi); (try clear ho0)) | (go_at_call 25; (with_reducible refine (ih k (by omega) _ _ l0 (wrap64 (a1 + (wrap64 (Int.tdiv (wrap64 (a2 - a1)) 2)))) a2 t186 _ ?side1 ?side2 A12.out).mono ?_); (case side1 => repeat (first | exact (Kd.C_below HR0.out HB.out) | (with_reducible refine Kd.C_alloc ?_ _) | (with_reducible refine Kd.C_drewN ?_ _) | (with_reducible refine Kd.C_drew ?_))); (case side2 => exact HC0.out); rintro e w14 ⟨v187, rfl, ho0, hb⟩; have n0_ := Aside0.mk (Kd.R_elder' (by (with_reducible repeat (first | apply Kd.R_alloc | apply Kd.R_drewN | apply Kd.R_drew)); exact HO185.out) (Kd.R_base ho0) hb); have n1_ := Aside0.mk (Kd.R_lower (Kd.R_new' ho0 (Kd.R_lt (by (with_reducible repeat (first | apply Kd.R_alloc | apply Kd.R_drewN | apply Kd.R_drew)); exact HO185.out))) (below_size (by repeat (first | (with_reducible first | exact HB.out | apply below_alloc | apply pw_below_drewN | apply below_drew1) | exact HB.out)))); have n2_ := Aside0.mk (below_step (by repeat (first | (with_reducible first | exact HB.out | apply below_alloc | apply pw_below_drewN | apply below_drew1) | exact HB.out)) hb); clear HO185; clear HB; have HO185 := n0_; have HO188 := n1_; have HB := n2_; clear n0_ n1_ n2_; (try clear hb); (try clear hb2); (try clear hk); (try clear hi); (try clear ho0))))
      go_loopg [8, 9, 10] k (fun kq v8 v9 v10 w' => ∃ (x8_1 : List Int) (x9_1 : List Int) (x10_1 : List Int), Aside0 (crucibleref06_sorted.l0 kq l0 x8_1 x9_1 x10_1 = some r) ∧ Aside0 (kq ≤ k) ∧ Aside0 (Kd.Q (Kd.int .i64) 3 w' w.heap.size (fun k_ => some k_ ≠ (v9 : Value).ownBlock ∧ some k_ ≠ (v10 : Value).ownBlock) v8 x8_1) ∧ Aside0 (Kd.Q (Kd.int .i64) 3 w' w.heap.size (fun k_ => some k_ ≠ (v8 : Value).ownBlock ∧ some k_ ≠ (v10 : Value).ownBlock) v9 x9_1) ∧ Aside0 (Kd.R (Kd.int .i64) 3 w' w.heap.size (fun k_ => some k_ ≠ (v8 : Value).ownBlock ∧ some k_ ≠ (v9 : Value).ownBlock) v10 x10_1) ∧ Aside0 (Below w.heap.size w w'))
      case atStart => exact ⟨(t183), (t186), (([] : List Int)), H', ⟨Nat.le_refl _⟩, ⟨Kd.Q_of_R (by (with_reducible repeat (first | apply Kd.R_alloc | apply Kd.R_drewN | apply Kd.R_drew)); exact Kd.R_mono HO185.out (fun _ hk => ⟨hk.2, (by simp [Value.ownBlock])⟩))⟩, ⟨Kd.Q_of_R (by (with_reducible repeat (first | apply Kd.R_alloc | apply Kd.R_drewN | apply Kd.R_drew)); exact Kd.R_mono HO188.out (fun _ hk => ⟨hk.2, (by simp [Value.ownBlock])⟩))⟩, ⟨by first | exact Kd.R_nil _ _ _ _ _ | exact Kd.N_nil _ _ _ _ _ | exact Kd.V_nil _ _ _ _ _ | exact Kd.Q_nil _ _ _ _ _ | exact Kd.S_nil _ _ _ _ _⟩, ⟨by repeat (first | (with_reducible first | exact HB.out | apply below_alloc | apply pw_below_drewN | apply below_drew1) | exact HB.out)⟩⟩
      case round =>
        clear H'
        try clear p1
        try clear q1
        try clear hx1
        try clear c2
        try clear p2
        try clear c4
        try clear c4b0
        try clear c5
        try clear c5b0
        try clear c5b1
        try clear c6
        try clear c6b0
        try clear p6
        try clear c7
        try clear c7b0
        try clear c8
        try clear c8b0
        try clear hx179_0
        try clear hx179_1
        try clear hx179_2
        try clear hx179_3
        try clear hx179_4
        try clear hx179_5
        try clear hx179_6
        try clear p179
        try clear q179
        obtain ⟨x8_1, x9_1, x10_1, HA, HK1, HO_8, HO_9, HO_10, HB⟩ := hrel
        cases gk with
        | zero => exact absurd HA.out (by simp [crucibleref06_sorted.l0])
        | succ k1 =>
          have H := HA.out
          clear HA
          simp only [crucibleref06_sorted.l0] at H
          have HC15 := Aside0.mk H
          clear H
          go_upto_region 11 with (fail)
          repeat (go_quiet (fail); go_upto_region 11 with (fail))
          go_cut [48] (fun v48 wc => ∃ (kq : Nat) (x48_14 : Bool), v48 = .bool x48_14 ∧ Aside0 (crucibleref06_sorted.j1 kq l0 x8_1 x9_1 x10_1 x48_14 = some r) ∧ Aside0 (kq ≤ k1) ∧ Aside0 (Kd.Q (Kd.int .i64) 3 wc w.heap.size (fun k_ => some k_ ≠ (u9 : Value).ownBlock ∧ some k_ ≠ (u10 : Value).ownBlock) u8 x8_1) ∧ Aside0 (Kd.Q (Kd.int .i64) 3 wc w.heap.size (fun k_ => some k_ ≠ (u8 : Value).ownBlock ∧ some k_ ≠ (u10 : Value).ownBlock) u9 x9_1) ∧ Aside0 (Kd.R (Kd.int .i64) 3 wc w.heap.size (fun k_ => some k_ ≠ (u8 : Value).ownBlock ∧ some k_ ≠ (u9 : Value).ownBlock) u10 x10_1) ∧ Aside0 (Below w.heap.size w wc))
          case first =>
            have H := HC15.out
            clear HC15
            by_cases c16 : (x8_1.length : Int) > 0
            · rw [if_pos c16] at H
              have c16b0 : decide (0 < (x8_1.length : Int)) = true := decide_eq_true c16
              have c16b1 : decide (0 < x8_1.length) = true := decide_eq_true (by omega)
              clear c16
              (first | rw [c16b0] | (simp only [i64_w, i32_w]; rw [c16b0]) | skip)
              have H' := Aside0.mk H
              clear H
              obtain ⟨Ao17, co17, eo17, _⟩ := Kd.Q_slice HO_8.out
              subst eo17
              obtain ⟨Ao18, co18, eo18, _⟩ := Kd.Q_slice HO_9.out
              subst eo18
              go_wp2
              repeat (go_quiet (fail); try go_wp2)
              go_meet
              case rel => exact ⟨_, (decide ((x9_1.length : Int) > 0)), (by first | rfl | (simp; done) | (simp [*]; done)), H', ⟨by have := HK1.out; first | omega | exact Nat.le_refl _⟩, ⟨by (with_reducible repeat (first | apply Kd.Q_alloc | apply Kd.Q_drewN | apply Kd.Q_drew)); exact HO_8.out⟩, ⟨by (with_reducible repeat (first | apply Kd.Q_alloc | apply Kd.Q_drewN | apply Kd.Q_drew)); exact HO_9.out⟩, ⟨by (with_reducible repeat (first | apply Kd.R_alloc | apply Kd.R_drewN | apply Kd.R_drew)); exact HO_10.out⟩, ⟨by repeat (first | (with_reducible first | exact HB.out | apply below_alloc | apply pw_below_drewN | apply below_drew1) | exact HB.out)⟩⟩
            · rw [if_neg c16] at H
              have c16b0 : decide (0 < (x8_1.length : Int)) = false := decide_eq_false c16
              have c16b1 : decide (0 < x8_1.length) = false := decide_eq_false (by omega)
              clear c16
              (first | rw [c16b0] | (simp only [i64_w, i32_w]; rw [c16b0]) | skip)
              have H' := Aside0.mk H
              clear H
              obtain ⟨Ao19, co19, eo19, _⟩ := Kd.Q_slice HO_8.out
              subst eo19
              go_wp2
              repeat (go_quiet (fail); try go_wp2)
              go_meet
              case rel => exact ⟨_, (false), (by first | rfl | (simp; done) | (simp [*]; done)), H', ⟨by have := HK1.out; first | omega | exact Nat.le_refl _⟩, ⟨by (with_reducible repeat (first | apply Kd.Q_alloc | apply Kd.Q_drewN | apply Kd.Q_drew)); exact HO_8.out⟩, ⟨by (with_reducible repeat (first | apply Kd.Q_alloc | apply Kd.Q_drewN | apply Kd.Q_drew)); exact HO_9.out⟩, ⟨by (with_reducible repeat (first | apply Kd.R_alloc | apply Kd.R_drewN | apply Kd.R_drew)); exact HO_10.out⟩, ⟨by repeat (first | (with_reducible first | exact HB.out | apply below_alloc | apply pw_below_drewN | apply below_drew1) | exact HB.out)⟩⟩
          case rest =>
            clear HC15
            try clear c1
            try clear p1
            try clear q1
            try clear hx1
            try clear c2
            try clear p2
            try clear c4
            try clear c4b0
            try clear c5
            try clear c5b0
            try clear c5b1
            try clear c6
            try clear c6b0
            try clear p6
            try clear c7
            try clear c7b0
            try clear c8
            try clear c8b0
            try clear c16
            try clear c16b0
            try clear c16b1
            try clear p17
            try clear q17
            try clear hx17
            try clear hx179_0
            try clear hx179_1
            try clear hx179_2
            try clear hx179_3
            try clear hx179_4
            try clear hx179_5
            try clear hx179_6
            try clear p1
            try clear p179
            try clear p2
            try clear p6
            try clear q1
            try clear q179
            obtain ⟨kq, x48_14, rfl, HA, HJ14, HO_8, HO_9, HO_10, HB⟩ := hcut
            cases kq with
            | zero => exact absurd HA.out (by simp [crucibleref06_sorted.j1])
            | succ kj14 =>
              have H := HA.out
              clear HA
              simp only [crucibleref06_sorted.j1] at H
              by_cases c20 : x48_14 = true
              · subst c20
                have H1 : (if 0 < (x9_1.length : Int) then (if 0 ≤ (rd x9_1 0) then (if (rd x9_1 0) < (l0.length : Int) then (if 0 < (x8_1.length : Int) then (if 0 ≤ (rd x8_1 0) then (if (rd x8_1 0) < (l0.length : Int) then (if ((rd_T37 l0 (rd x9_1 0)).f0) < ((rd_T37 l0 (rd x8_1 0)).f0) then (if x10_1.length < 17592186044416 then (if 1 ≤ (x9_1.length : Int) then (crucibleref06_sorted.l0 kj14 l0 x8_1 (x9_1.drop (1 : Int).toNat) (x10_1 ++ [rd x9_1 0])) else (none)) else (none)) else (if x10_1.length < 17592186044416 then (if 1 ≤ (x8_1.length : Int) then (crucibleref06_sorted.l0 kj14 l0 (x8_1.drop (1 : Int).toNat) x9_1 (x10_1 ++ [rd x8_1 0])) else (none)) else (none))) else (none)) else (none)) else (none)) else (none)) else (none)) else (none)) = some r := by rw [if_pos rfl] at H; exact H
                clear H
                have H := H1
                clear H1
                by_cases c21 : 0 < (x9_1.length : Int)
                · rw [if_pos c21] at H
                  have c21b0 : decide (0 < (x9_1.length : Int)) = true := decide_eq_true c21
                  have c21b1 : decide (0 < x9_1.length) = true := decide_eq_true (by omega)
                  clear c21
                  by_cases c22 : 0 ≤ (rd x9_1 0)
                  · rw [if_pos c22] at H
                    have c22b0 : decide (0 ≤ (rd x9_1 0)) = true := decide_eq_true c22
                    clear c22
                    by_cases c23 : (rd x9_1 0) < (l0.length : Int)
                    · rw [if_pos c23] at H
                      have c23b0 : decide ((rd x9_1 0) < (l0.length : Int)) = true := decide_eq_true c23
                      clear c23
                      by_cases c24 : 0 < (x8_1.length : Int)
                      · rw [if_pos c24] at H
                        have c24b0 : decide (0 < (x8_1.length : Int)) = true := decide_eq_true c24
                        have c24b1 : decide (0 < x8_1.length) = true := decide_eq_true (by omega)
                        clear c24
                        by_cases c25 : 0 ≤ (rd x8_1 0)
                        · rw [if_pos c25] at H
                          have c25b0 : decide (0 ≤ (rd x8_1 0)) = true := decide_eq_true c25
                          clear c25
                          by_cases c26 : (rd x8_1 0) < (l0.length : Int)
                          · rw [if_pos c26] at H
                            have c26b0 : decide ((rd x8_1 0) < (l0.length : Int)) = true := decide_eq_true c26
                            clear c26
                            by_cases c27 : ((rd_T37 l0 (rd x9_1 0)).f0) < ((rd_T37 l0 (rd x8_1 0)).f0)
                            · rw [if_pos c27] at H
                              have c27b0 : decide (((rd_T37 l0 (rd x9_1 0)).f0) < ((rd_T37 l0 (rd x8_1 0)).f0)) = true := decide_eq_true c27
                              clear c27
                              by_cases c28 : x10_1.length < 17592186044416
                              · rw [if_pos c28] at H
                                have LMc28 := Aside0.mk c28
                                clear c28
                                obtain ⟨y194, hy194⟩ : ∃ y_ : List Int, y_ = (x10_1 ++ [rd x9_1 0]) := ⟨_, rfl⟩
                                replace H : (if 1 ≤ (x9_1.length : Int) then (crucibleref06_sorted.l0 kj14 l0 x8_1 (x9_1.drop (1 : Int).toNat) y194) else (none)) = some r := by first | (rw [hy194]; with_reducible exact H) | (have H2_ := (Option.bind_some _ _).symm.trans H; rw [hy194]; with_reducible exact H2_) | (have H2_ := (Option.bind_some _ _).symm.trans H; with_reducible exact H2_) | with_reducible exact H | (rw [hy194]; exact H) | exact H
                                have Ny194 := Aside0.mk hy194
                                clear hy194
                                by_cases c29 : 1 ≤ (x9_1.length : Int)
                                · rw [if_pos c29] at H
                                  have c29b0 := eq_true c29
                                  have c29b1 : decide (1 ≤ (x9_1.length : Int)) = true := decide_eq_true c29
                                  clear c29
                                  obtain ⟨y197, hy197⟩ : ∃ y_ : List Int, y_ = (x9_1.drop (1 : Int).toNat) := ⟨_, rfl⟩
                                  replace H : (crucibleref06_sorted.l0 kj14 l0 x8_1 y197 y194) = some r := by first | (rw [hy197]; with_reducible exact H) | (have H2_ := (Option.bind_some _ _).symm.trans H; rw [hy197]; with_reducible exact H2_) | (have H2_ := (Option.bind_some _ _).symm.trans H; with_reducible exact H2_) | with_reducible exact H | (rw [hy197]; exact H) | exact H
                                  have Ny197 := Aside0.mk hy197
                                  clear hy197
                                  have H' := Aside0.mk H
                                  clear H
                                  obtain ⟨Ao30, co30, eo30, _⟩ := Kd.Q_slice HO_9.out
                                  subst eo30
                                  have p189 : 0 ≤ (0 : Int) := (by omega)
                                  have q189 : 0 < (x9_1.length : Int) := of_decide_eq_true (by first | (with_reducible assumption) | assumption)
                                  obtain ⟨ad189, e189, hx189_0⟩ := Kd.at_int (Kd.Q_reads' HO_9.out).2.2 0 p189 q189
                                  cases e189
                                  have qi189 : (0 < x9_1.length) = True := eq_true (by omega)
                                  (try rw [show ((0 : Int)).toNat = 0 from rfl] at hx189_0)
                                  (try rw [Addr.add_zero'] at hx189_0)
                                  replace p189 := eq_true p189
                                  replace q189 := eq_true q189
                                  have p190 : 0 ≤ ((rd x9_1 0) : Int) := of_decide_eq_true (by first | (with_reducible assumption) | assumption)
                                  have q190 : (rd x9_1 0) < (l0.length : Int) := of_decide_eq_true (by first | (with_reducible assumption) | assumption)
                                  obtain ⟨ad190, e190, hx190_0, hx190_1, hx190_2, hx190_3, hx190_4, hx190_5, hx190_6⟩ := at_T37 HR0.out (rd x9_1 0) p190 q190
                                  cases e190
                                  replace hx190_0 := (HB.out.cell (World.block_lt_of_cell? w _ hx190_0)).trans hx190_0
                                  replace hx190_1 := (HB.out.cell (World.block_lt_of_cell? w _ hx190_1)).trans hx190_1
                                  replace hx190_2 := (HB.out.cell (World.block_lt_of_cell? w _ hx190_2)).trans hx190_2
                                  replace hx190_3 := (HB.out.cell (World.block_lt_of_cell? w _ hx190_3)).trans hx190_3
                                  replace hx190_4 := (HB.out.cell (World.block_lt_of_cell? w _ hx190_4)).trans hx190_4
                                  replace hx190_5 := (HB.out.cell (World.block_lt_of_cell? w _ hx190_5)).trans hx190_5
                                  replace hx190_6 := (HB.out.cell (World.block_lt_of_cell? w _ hx190_6)).trans hx190_6
                                  replace p190 := eq_true p190
                                  replace q190 := eq_true q190
                                  obtain ⟨Ao31, co31, eo31, _⟩ := Kd.Q_slice HO_8.out
                                  subst eo31
                                  have p191 : 0 ≤ (0 : Int) := (by omega)
                                  have q191 : 0 < (x8_1.length : Int) := of_decide_eq_true (by first | (with_reducible assumption) | assumption)
                                  obtain ⟨ad191, e191, hx191_0⟩ := Kd.at_int (Kd.Q_reads' HO_8.out).2.2 0 p191 q191
                                  cases e191
                                  have qi191 : (0 < x8_1.length) = True := eq_true (by omega)
                                  (try rw [show ((0 : Int)).toNat = 0 from rfl] at hx191_0)
                                  (try rw [Addr.add_zero'] at hx191_0)
                                  replace p191 := eq_true p191
                                  replace q191 := eq_true q191
                                  have p192 : 0 ≤ ((rd x8_1 0) : Int) := of_decide_eq_true (by first | (with_reducible assumption) | assumption)
                                  have q192 : (rd x8_1 0) < (l0.length : Int) := of_decide_eq_true (by first | (with_reducible assumption) | assumption)
                                  obtain ⟨ad192, e192, hx192_0, hx192_1, hx192_2, hx192_3, hx192_4, hx192_5, hx192_6⟩ := at_T37 HR0.out (rd x8_1 0) p192 q192
                                  obtain rfl : ad190 = ad192 := (by injection e192)
                                  replace hx192_0 := (HB.out.cell (World.block_lt_of_cell? w _ hx192_0)).trans hx192_0
                                  replace hx192_1 := (HB.out.cell (World.block_lt_of_cell? w _ hx192_1)).trans hx192_1
                                  replace hx192_2 := (HB.out.cell (World.block_lt_of_cell? w _ hx192_2)).trans hx192_2
                                  replace hx192_3 := (HB.out.cell (World.block_lt_of_cell? w _ hx192_3)).trans hx192_3
                                  replace hx192_4 := (HB.out.cell (World.block_lt_of_cell? w _ hx192_4)).trans hx192_4
                                  replace hx192_5 := (HB.out.cell (World.block_lt_of_cell? w _ hx192_5)).trans hx192_5
                                  replace hx192_6 := (HB.out.cell (World.block_lt_of_cell? w _ hx192_6)).trans hx192_6
                                  replace p192 := eq_true p192
                                  replace q192 := eq_true q192
                                  have p193 : 0 ≤ (0 : Int) := (by omega)
                                  have q193 : 0 < (x9_1.length : Int) := of_decide_eq_true (by first | (with_reducible assumption) | assumption)
                                  obtain ⟨ad193, e193, hx193_0⟩ := Kd.at_int (Kd.Q_reads' HO_9.out).2.2 0 p193 q193
                                  obtain rfl : ad189 = ad193 := (by injection e193)
                                  have qi193 : (0 < x9_1.length) = True := eq_true (by omega)
                                  (try rw [show ((0 : Int)).toNat = 0 from rfl] at hx193_0)
                                  (try rw [Addr.add_zero'] at hx193_0)
                                  replace p193 := eq_true p193
                                  replace q193 := eq_true q193
                                  go_wp2_with (first | ((with_reducible refine gate_builtin (b := .append) (xs := #[.tmp 64, .tmp 68]) rfl ?_); (try (refine gate_guard (by rfl) ?_; dsimp only)); at_builtin; refine Kd.R_append (Kd.int .i64) (w0 := w) w.heap.size rfl (.tmp 64) (.tmp 68) 47 3 (.int .i64 0) 8 rfl Try.underlying47 info3 rfl (by decide) (by omega) u10 x10_1 (rd x9_1 0) [.int .i64 (rd x9_1 0)] (fun k_ => some k_ ≠ (.slice (some ad191) x8_1.length co31 : Value).ownBlock ∧ some k_ ≠ (.slice (some ad189) x9_1.length co30 : Value).ownBlock) (fun _ => False) rfl rfl ?aP (fun _ hk => hk.elim) ?aF ?aO ?aB ?aS ?aL ?_; (case aP => exact rfl); (case aB => exact (by repeat (first | (with_reducible first | exact HB.out | apply below_alloc | apply pw_below_drewN | apply below_drew1) | exact HB.out))); (case aF => exact (fun k_ hk => ⟨Kd.fresh' (Kd.Q_lt (by (with_reducible repeat (first | apply Kd.Q_alloc | apply Kd.Q_drewN | apply Kd.Q_drew)); exact HO_8.out)) k_ hk, Kd.fresh' (Kd.Q_lt (by (with_reducible repeat (first | apply Kd.Q_alloc | apply Kd.Q_drewN | apply Kd.Q_drew)); exact HO_9.out)) k_ hk⟩)); (case aO => exact (by (with_reducible repeat (first | apply Kd.R_alloc | apply Kd.R_drewN | apply Kd.R_drew)); exact HO_10.out)); (case aS => exact (below_size (by repeat (first | (with_reducible first | exact HB.out | apply below_alloc | apply pw_below_drewN | apply below_drew1) | exact HB.out)))); (case aL => have := LMc28.out; omega); intro v195 w32 ho hb hg hat; rw [← Ny194.out] at ho; have n0_ := Aside0.mk (Kd.Q_after (ok := (fun k_ => some k_ ≠ (.slice (some ad189) x9_1.length co30 : Value).ownBlock)) (by (with_reducible repeat (first | apply Kd.Q_alloc | apply Kd.Q_drewN | apply Kd.Q_drew)); exact HO_8.out) hg hat); have n1_ := Aside0.mk (Kd.Q_after (ok := (fun k_ => some k_ ≠ (.slice (some ad191) x8_1.length co31 : Value).ownBlock)) (by (with_reducible repeat (first | apply Kd.Q_alloc | apply Kd.Q_drewN | apply Kd.Q_drew)); exact HO_9.out) hg hat); have n2_ := Aside0.mk (hb); have n3_ := Aside0.mk (ho); clear HO_8; clear HO_9; clear HB; clear HO_10; have HO_8 := n0_; have HO_9 := n1_; have HB := n2_; have HO196 := n3_; clear n0_ n1_ n2_ n3_; clear ho hb hg hat; have q33 : (1 : Int) ≤ ((x9_1.length : Int) : Int) := of_decide_eq_true (by first | (with_reducible assumption) | assumption); obtain ⟨i033, hi033, _, hsz33, _⟩ := info_parts info3; have hcut33 := cut_from (P := Try.prog) 47 3 .i64 Try.underlying47 hi033 1 hsz33 (some ad189) x9_1.length co30 1 (by omega) q33; have hr33 := Kd.Q_drop (k := (1 : Int).toNat) HO_9.out (by omega); obtain ⟨A33, hA33⟩ : ∃ A1, A1 = (if co30 = (1 : Int).toNat then (some ad189) else ((some ad189) : Option Addr).map (·.add ((1 : Int).toNat * 1))) := ⟨_, rfl⟩; obtain ⟨c33, hc33⟩ : ∃ c1, c1 = co30 - (1 : Int).toNat := ⟨_, rfl⟩; have hy33 : y197.length = x9_1.length - (1 : Int).toNat := (by rw [Ny197.out, List.length_drop]); rw [← Ny197.out] at hr33; rw [← hy33, ← hA33, ← hc33] at hcut33; replace hr33 : Kd.Q (Kd.int .i64) 3 w32 w.heap.size (fun k_ => some k_ ≠ (.slice (some ad191) x8_1.length co31 : Value).ownBlock ∧ some k_ ≠ (v195 : Value).ownBlock) (.slice A33 y197.length c33) y197 := (by rw [hA33, hc33, hy33]; exact hr33); have HE33 : Aside0 ((Value.slice A33 y197.length c33).ownBlock = (.slice (some ad189) x9_1.length co30 : Value).ownBlock) := ⟨by rw [hA33]; split <;> (cases ((some ad189) : Option Addr) <;> rfl)⟩; clear hy33 hi033 hsz33 HO_9 hA33 hc33; have HO199 := Aside0.mk hr33; clear hr33; replace q33 := eq_true q33; have n_ := Aside0.mk (Kd.Q_mono (ok' := fun k_ => (some k_ ≠ (.slice A33 y197.length c33 : Value).ownBlock ∧ some k_ ≠ (v195 : Value).ownBlock)) HO_8.out (fun k_ hk => ⟨(by rw [HE33.out]; exact hk.1), hk.2⟩)); clear HO_8; have HO_8 := n_; clear n_; have n_ := Aside0.mk (Kd.R_mono (ok' := fun k_ => (some k_ ≠ (.slice (some ad191) x8_1.length co31 : Value).ownBlock ∧ some k_ ≠ (.slice A33 y197.length c33 : Value).ownBlock)) HO196.out (fun k_ hk => ⟨hk.1, (by rw [HE33.out]; exact hk.2)⟩)); clear HO196; have HO196 := n_; clear n_))
                                  repeat (go_quiet (first | ((with_reducible refine gate_builtin (b := .append) (xs := #[.tmp 64, .tmp 68]) rfl ?_); (try (refine gate_guard (by rfl) ?_; dsimp only)); at_builtin; refine Kd.R_append (Kd.int .i64) (w0 := w) w.heap.size rfl (.tmp 64) (.tmp 68) 47 3 (.int .i64 0) 8 rfl Try.underlying47 info3 rfl (by decide) (by omega) u10 x10_1 (rd x9_1 0) [.int .i64 (rd x9_1 0)] (fun k_ => some k_ ≠ (.slice (some ad191) x8_1.length co31 : Value).ownBlock ∧ some k_ ≠ (.slice (some ad189) x9_1.length co30 : Value).ownBlock) (fun _ => False) rfl rfl ?aP (fun _ hk => hk.elim) ?aF ?aO ?aB ?aS ?aL ?_; (case aP => exact rfl); (case aB => exact (by repeat (first | (with_reducible first | exact HB.out | apply below_alloc | apply pw_below_drewN | apply below_drew1) | exact HB.out))); (case aF => exact (fun k_ hk => ⟨Kd.fresh' (Kd.Q_lt (by (with_reducible repeat (first | apply Kd.Q_alloc | apply Kd.Q_drewN | apply Kd.Q_drew)); exact HO_8.out)) k_ hk, Kd.fresh' (Kd.Q_lt (by (with_reducible repeat (first | apply Kd.Q_alloc | apply Kd.Q_drewN | apply Kd.Q_drew)); exact HO_9.out)) k_ hk⟩)); (case aO => exact (by (with_reducible repeat (first | apply Kd.R_alloc | apply Kd.R_drewN | apply Kd.R_drew)); exact HO_10.out)); (case aS => exact (below_size (by repeat (first | (with_reducible first | exact HB.out | apply below_alloc | apply pw_below_drewN | apply below_drew1) | exact HB.out)))); (case aL => have := LMc28.out; omega); intro v195 w32 ho hb hg hat; rw [← Ny194.out] at ho; have n0_ := Aside0.mk (Kd.Q_after (ok := (fun k_ => some k_ ≠ (.slice (some ad189) x9_1.length co30 : Value).ownBlock)) (by (with_reducible repeat (first | apply Kd.Q_alloc | apply Kd.Q_drewN | apply Kd.Q_drew)); exact HO_8.out) hg hat); have n1_ := Aside0.mk (Kd.Q_after (ok := (fun k_ => some k_ ≠ (.slice (some ad191) x8_1.length co31 : Value).ownBlock)) (by (with_reducible repeat (first | apply Kd.Q_alloc | apply Kd.Q_drewN | apply Kd.Q_drew)); exact HO_9.out) hg hat); have n2_ := Aside0.mk (hb); have n3_ := Aside0.mk (ho); clear HO_8; clear HO_9; clear HB; clear HO_10; have HO_8 := n0_; have HO_9 := n1_; have HB := n2_; have HO196 := n3_; clear n0_ n1_ n2_ n3_; clear ho hb hg hat; have q33 : (1 : Int) ≤ ((x9_1.length : Int) : Int) := of_decide_eq_true (by first | (with_reducible assumption) | assumption); obtain ⟨i033, hi033, _, hsz33, _⟩ := info_parts info3; have hcut33 := cut_from (P := Try.prog) 47 3 .i64 Try.underlying47 hi033 1 hsz33 (some ad189) x9_1.length co30 1 (by omega) q33; have hr33 := Kd.Q_drop (k := (1 : Int).toNat) HO_9.out (by omega); obtain ⟨A33, hA33⟩ : ∃ A1, A1 = (if co30 = (1 : Int).toNat then (some ad189) else ((some ad189) : Option Addr).map (·.add ((1 : Int).toNat * 1))) := ⟨_, rfl⟩; obtain ⟨c33, hc33⟩ : ∃ c1, c1 = co30 - (1 : Int).toNat := ⟨_, rfl⟩; have hy33 : y197.length = x9_1.length - (1 : Int).toNat := (by rw [Ny197.out, List.length_drop]); rw [← Ny197.out] at hr33; rw [← hy33, ← hA33, ← hc33] at hcut33; replace hr33 : Kd.Q (Kd.int .i64) 3 w32 w.heap.size (fun k_ => some k_ ≠ (.slice (some ad191) x8_1.length co31 : Value).ownBlock ∧ some k_ ≠ (v195 : Value).ownBlock) (.slice A33 y197.length c33) y197 := (by rw [hA33, hc33, hy33]; exact hr33); have HE33 : Aside0 ((Value.slice A33 y197.length c33).ownBlock = (.slice (some ad189) x9_1.length co30 : Value).ownBlock) := ⟨by rw [hA33]; split <;> (cases ((some ad189) : Option Addr) <;> rfl)⟩; clear hy33 hi033 hsz33 HO_9 hA33 hc33; have HO199 := Aside0.mk hr33; clear hr33; replace q33 := eq_true q33; have n_ := Aside0.mk (Kd.Q_mono (ok' := fun k_ => (some k_ ≠ (.slice A33 y197.length c33 : Value).ownBlock ∧ some k_ ≠ (v195 : Value).ownBlock)) HO_8.out (fun k_ hk => ⟨(by rw [HE33.out]; exact hk.1), hk.2⟩)); clear HO_8; have HO_8 := n_; clear n_; have n_ := Aside0.mk (Kd.R_mono (ok' := fun k_ => (some k_ ≠ (.slice (some ad191) x8_1.length co31 : Value).ownBlock ∧ some k_ ≠ (.slice A33 y197.length c33 : Value).ownBlock)) HO196.out (fun k_ hk => ⟨hk.1, (by rw [HE33.out]; exact hk.2)⟩)); clear HO196; have HO196 := n_; clear n_)); try go_wp2_with (first | ((with_reducible refine gate_builtin (b := .append) (xs := #[.tmp 64, .tmp 68]) rfl ?_); (try (refine gate_guard (by rfl) ?_; dsimp only)); at_builtin; refine Kd.R_append (Kd.int .i64) (w0 := w) w.heap.size rfl (.tmp 64) (.tmp 68) 47 3 (.int .i64 0) 8 rfl Try.underlying47 info3 rfl (by decide) (by omega) u10 x10_1 (rd x9_1 0) [.int .i64 (rd x9_1 0)] (fun k_ => some k_ ≠ (.slice (some ad191) x8_1.length co31 : Value).ownBlock ∧ some k_ ≠ (.slice (some ad189) x9_1.length co30 : Value).ownBlock) (fun _ => False) rfl rfl ?aP (fun _ hk => hk.elim) ?aF ?aO ?aB ?aS ?aL ?_; (case aP => exact rfl); (case aB => exact (by repeat (first | (with_reducible first | exact HB.out | apply below_alloc | apply pw_below_drewN | apply below_drew1) | exact HB.out))); (case aF => exact (fun k_ hk => ⟨Kd.fresh' (Kd.Q_lt (by (with_reducible repeat (first | apply Kd.Q_alloc | apply Kd.Q_drewN | apply Kd.Q_drew)); exact HO_8.out)) k_ hk, Kd.fresh' (Kd.Q_lt (by (with_reducible repeat (first | apply Kd.Q_alloc | apply Kd.Q_drewN | apply Kd.Q_drew)); exact HO_9.out)) k_ hk⟩)); (case aO => exact (by (with_reducible repeat (first | apply Kd.R_alloc | apply Kd.R_drewN | apply Kd.R_drew)); exact HO_10.out)); (case aS => exact (below_size (by repeat (first | (with_reducible first | exact HB.out | apply below_alloc | apply pw_below_drewN | apply below_drew1) | exact HB.out)))); (case aL => have := LMc28.out; omega); intro v195 w32 ho hb hg hat; rw [← Ny194.out] at ho; have n0_ := Aside0.mk (Kd.Q_after (ok := (fun k_ => some k_ ≠ (.slice (some ad189) x9_1.length co30 : Value).ownBlock)) (by (with_reducible repeat (first | apply Kd.Q_alloc | apply Kd.Q_drewN | apply Kd.Q_drew)); exact HO_8.out) hg hat); have n1_ := Aside0.mk (Kd.Q_after (ok := (fun k_ => some k_ ≠ (.slice (some ad191) x8_1.length co31 : Value).ownBlock)) (by (with_reducible repeat (first | apply Kd.Q_alloc | apply Kd.Q_drewN | apply Kd.Q_drew)); exact HO_9.out) hg hat); have n2_ := Aside0.mk (hb); have n3_ := Aside0.mk (ho); clear HO_8; clear HO_9; clear HB; clear HO_10; have HO_8 := n0_; have HO_9 := n1_; have HB := n2_; have HO196 := n3_; clear n0_ n1_ n2_ n3_; clear ho hb hg hat; have q33 : (1 : Int) ≤ ((x9_1.length : Int) : Int) := of_decide_eq_true (by first | (with_reducible assumption) | assumption); obtain ⟨i033, hi033, _, hsz33, _⟩ := info_parts info3; have hcut33 := cut_from (P := Try.prog) 47 3 .i64 Try.underlying47 hi033 1 hsz33 (some ad189) x9_1.length co30 1 (by omega) q33; have hr33 := Kd.Q_drop (k := (1 : Int).toNat) HO_9.out (by omega); obtain ⟨A33, hA33⟩ : ∃ A1, A1 = (if co30 = (1 : Int).toNat then (some ad189) else ((some ad189) : Option Addr).map (·.add ((1 : Int).toNat * 1))) := ⟨_, rfl⟩; obtain ⟨c33, hc33⟩ : ∃ c1, c1 = co30 - (1 : Int).toNat := ⟨_, rfl⟩; have hy33 : y197.length = x9_1.length - (1 : Int).toNat := (by rw [Ny197.out, List.length_drop]); rw [← Ny197.out] at hr33; rw [← hy33, ← hA33, ← hc33] at hcut33; replace hr33 : Kd.Q (Kd.int .i64) 3 w32 w.heap.size (fun k_ => some k_ ≠ (.slice (some ad191) x8_1.length co31 : Value).ownBlock ∧ some k_ ≠ (v195 : Value).ownBlock) (.slice A33 y197.length c33) y197 := (by rw [hA33, hc33, hy33]; exact hr33); have HE33 : Aside0 ((Value.slice A33 y197.length c33).ownBlock = (.slice (some ad189) x9_1.length co30 : Value).ownBlock) := ⟨by rw [hA33]; split <;> (cases ((some ad189) : Option Addr) <;> rfl)⟩; clear hy33 hi033 hsz33 HO_9 hA33 hc33; have HO199 := Aside0.mk hr33; clear hr33; replace q33 := eq_true q33; have n_ := Aside0.mk (Kd.Q_mono (ok' := fun k_ => (some k_ ≠ (.slice A33 y197.length c33 : Value).ownBlock ∧ some k_ ≠ (v195 : Value).ownBlock)) HO_8.out (fun k_ hk => ⟨(by rw [HE33.out]; exact hk.1), hk.2⟩)); clear HO_8; have HO_8 := n_; clear n_; have n_ := Aside0.mk (Kd.R_mono (ok' := fun k_ => (some k_ ≠ (.slice (some ad191) x8_1.length co31 : Value).ownBlock ∧ some k_ ≠ (.slice A33 y197.length c33 : Value).ownBlock)) HO196.out (fun k_ hk => ⟨hk.1, (by rw [HE33.out]; exact hk.2)⟩)); clear HO196; have HO196 := n_; clear n_)))
                                  go_roundg kj14
                                  case measure => have := HK1.out; have := HJ14.out; omega
                                  case rel => exact ⟨(x8_1), (y197), (y194), H', ⟨by have := HK1.out; have := HJ14.out; omega⟩, ⟨by (with_reducible repeat (first | apply Kd.Q_alloc | apply Kd.Q_drewN | apply Kd.Q_drew)); exact HO_8.out⟩, ⟨by (with_reducible repeat (first | apply Kd.Q_alloc | apply Kd.Q_drewN | apply Kd.Q_drew)); exact HO199.out⟩, ⟨by (with_reducible repeat (first | apply Kd.R_alloc | apply Kd.R_drewN | apply Kd.R_drew)); exact HO196.out⟩, ⟨by repeat (first | (with_reducible first | exact HB.out | apply below_alloc | apply pw_below_drewN | apply below_drew1) | exact HB.out)⟩⟩
                                · rw [if_neg c29] at H
                                  exact absurd H (by simp)
                              · rw [if_neg c28] at H
                                exact absurd H (by simp)
                            · rw [if_neg c27] at H
                              have c27b0 : decide (((rd_T37 l0 (rd x9_1 0)).f0) < ((rd_T37 l0 (rd x8_1 0)).f0)) = false := decide_eq_false c27
                              clear c27
                              by_cases c34 : x10_1.length < 17592186044416
                              · rw [if_pos c34] at H
                                have LMc34 := Aside0.mk c34
                                clear c34
                                obtain ⟨y201, hy201⟩ : ∃ y_ : List Int, y_ = (x10_1 ++ [rd x8_1 0]) := ⟨_, rfl⟩
                                replace H : (if 1 ≤ (x8_1.length : Int) then (crucibleref06_sorted.l0 kj14 l0 (x8_1.drop (1 : Int).toNat) x9_1 y201) else (none)) = some r := by first | (rw [hy201]; with_reducible exact H) | (have H2_ := (Option.bind_some _ _).symm.trans H; rw [hy201]; with_reducible exact H2_) | (have H2_ := (Option.bind_some _ _).symm.trans H; with_reducible exact H2_) | with_reducible exact H | (rw [hy201]; exact H) | exact H
                                have Ny201 := Aside0.mk hy201
                                clear hy201
                                by_cases c35 : 1 ≤ (x8_1.length : Int)
                                · rw [if_pos c35] at H
                                  have c35b0 := eq_true c35
                                  have c35b1 : decide (1 ≤ (x8_1.length : Int)) = true := decide_eq_true c35
                                  clear c35
                                  obtain ⟨y204, hy204⟩ : ∃ y_ : List Int, y_ = (x8_1.drop (1 : Int).toNat) := ⟨_, rfl⟩
                                  replace H : (crucibleref06_sorted.l0 kj14 l0 y204 x9_1 y201) = some r := by first | (rw [hy204]; with_reducible exact H) | (have H2_ := (Option.bind_some _ _).symm.trans H; rw [hy204]; with_reducible exact H2_) | (have H2_ := (Option.bind_some _ _).symm.trans H; with_reducible exact H2_) | with_reducible exact H | (rw [hy204]; exact H) | exact H
                                  have Ny204 := Aside0.mk hy204
                                  clear hy204
                                  have H' := Aside0.mk H
                                  clear H
                                  obtain ⟨Ao36, co36, eo36, _⟩ := Kd.Q_slice HO_9.out
                                  subst eo36
                                  have p189 : 0 ≤ (0 : Int) := (by omega)
                                  have q189 : 0 < (x9_1.length : Int) := of_decide_eq_true (by first | (with_reducible assumption) | assumption)
                                  obtain ⟨ad189, e189, hx189_0⟩ := Kd.at_int (Kd.Q_reads' HO_9.out).2.2 0 p189 q189
                                  cases e189
                                  have qi189 : (0 < x9_1.length) = True := eq_true (by omega)
                                  (try rw [show ((0 : Int)).toNat = 0 from rfl] at hx189_0)
                                  (try rw [Addr.add_zero'] at hx189_0)
                                  replace p189 := eq_true p189
                                  replace q189 := eq_true q189
                                  have p190 : 0 ≤ ((rd x9_1 0) : Int) := of_decide_eq_true (by first | (with_reducible assumption) | assumption)
                                  have q190 : (rd x9_1 0) < (l0.length : Int) := of_decide_eq_true (by first | (with_reducible assumption) | assumption)
                                  obtain ⟨ad190, e190, hx190_0, hx190_1, hx190_2, hx190_3, hx190_4, hx190_5, hx190_6⟩ := at_T37 HR0.out (rd x9_1 0) p190 q190
                                  cases e190
                                  replace hx190_0 := (HB.out.cell (World.block_lt_of_cell? w _ hx190_0)).trans hx190_0
                                  replace hx190_1 := (HB.out.cell (World.block_lt_of_cell? w _ hx190_1)).trans hx190_1
                                  replace hx190_2 := (HB.out.cell (World.block_lt_of_cell? w _ hx190_2)).trans hx190_2
                                  replace hx190_3 := (HB.out.cell (World.block_lt_of_cell? w _ hx190_3)).trans hx190_3
                                  replace hx190_4 := (HB.out.cell (World.block_lt_of_cell? w _ hx190_4)).trans hx190_4
                                  replace hx190_5 := (HB.out.cell (World.block_lt_of_cell? w _ hx190_5)).trans hx190_5
                                  replace hx190_6 := (HB.out.cell (World.block_lt_of_cell? w _ hx190_6)).trans hx190_6
                                  replace p190 := eq_true p190
                                  replace q190 := eq_true q190
                                  obtain ⟨Ao37, co37, eo37, _⟩ := Kd.Q_slice HO_8.out
                                  subst eo37
                                  have p191 : 0 ≤ (0 : Int) := (by omega)
                                  have q191 : 0 < (x8_1.length : Int) := of_decide_eq_true (by first | (with_reducible assumption) | assumption)
                                  obtain ⟨ad191, e191, hx191_0⟩ := Kd.at_int (Kd.Q_reads' HO_8.out).2.2 0 p191 q191
                                  cases e191
                                  have qi191 : (0 < x8_1.length) = True := eq_true (by omega)
                                  (try rw [show ((0 : Int)).toNat = 0 from rfl] at hx191_0)
                                  (try rw [Addr.add_zero'] at hx191_0)
                                  replace p191 := eq_true p191
                                  replace q191 := eq_true q191
                                  have p192 : 0 ≤ ((rd x8_1 0) : Int) := of_decide_eq_true (by first | (with_reducible assumption) | assumption)
                                  have q192 : (rd x8_1 0) < (l0.length : Int) := of_decide_eq_true (by first | (with_reducible assumption) | assumption)
                                  obtain ⟨ad192, e192, hx192_0, hx192_1, hx192_2, hx192_3, hx192_4, hx192_5, hx192_6⟩ := at_T37 HR0.out (rd x8_1 0) p192 q192
                                  obtain rfl : ad190 = ad192 := (by injection e192)
                                  replace hx192_0 := (HB.out.cell (World.block_lt_of_cell? w _ hx192_0)).trans hx192_0
                                  replace hx192_1 := (HB.out.cell (World.block_lt_of_cell? w _ hx192_1)).trans hx192_1
                                  replace hx192_2 := (HB.out.cell (World.block_lt_of_cell? w _ hx192_2)).trans hx192_2
                                  replace hx192_3 := (HB.out.cell (World.block_lt_of_cell? w _ hx192_3)).trans hx192_3
                                  replace hx192_4 := (HB.out.cell (World.block_lt_of_cell? w _ hx192_4)).trans hx192_4
                                  replace hx192_5 := (HB.out.cell (World.block_lt_of_cell? w _ hx192_5)).trans hx192_5
                                  replace hx192_6 := (HB.out.cell (World.block_lt_of_cell? w _ hx192_6)).trans hx192_6
                                  replace p192 := eq_true p192
                                  replace q192 := eq_true q192
                                  have p200 : 0 ≤ (0 : Int) := (by omega)
                                  have q200 : 0 < (x8_1.length : Int) := of_decide_eq_true (by first | (with_reducible assumption) | assumption)
                                  obtain ⟨ad200, e200, hx200_0⟩ := Kd.at_int (Kd.Q_reads' HO_8.out).2.2 0 p200 q200
                                  obtain rfl : ad191 = ad200 := (by injection e200)
                                  have qi200 : (0 < x8_1.length) = True := eq_true (by omega)
                                  (try rw [show ((0 : Int)).toNat = 0 from rfl] at hx200_0)
                                  (try rw [Addr.add_zero'] at hx200_0)
                                  replace p200 := eq_true p200
                                  replace q200 := eq_true q200
                                  go_wp2_with (first | ((with_reducible refine gate_builtin (b := .append) (xs := #[.tmp 72, .tmp 76]) rfl ?_); (try (refine gate_guard (by rfl) ?_; dsimp only)); at_builtin; refine Kd.R_append (Kd.int .i64) (w0 := w) w.heap.size rfl (.tmp 72) (.tmp 76) 47 3 (.int .i64 0) 8 rfl Try.underlying47 info3 rfl (by decide) (by omega) u10 x10_1 (rd x8_1 0) [.int .i64 (rd x8_1 0)] (fun k_ => some k_ ≠ (.slice (some ad191) x8_1.length co37 : Value).ownBlock ∧ some k_ ≠ (.slice (some ad189) x9_1.length co36 : Value).ownBlock) (fun _ => False) rfl rfl ?aP (fun _ hk => hk.elim) ?aF ?aO ?aB ?aS ?aL ?_; (case aP => exact rfl); (case aB => exact (by repeat (first | (with_reducible first | exact HB.out | apply below_alloc | apply pw_below_drewN | apply below_drew1) | exact HB.out))); (case aF => exact (fun k_ hk => ⟨Kd.fresh' (Kd.Q_lt (by (with_reducible repeat (first | apply Kd.Q_alloc | apply Kd.Q_drewN | apply Kd.Q_drew)); exact HO_8.out)) k_ hk, Kd.fresh' (Kd.Q_lt (by (with_reducible repeat (first | apply Kd.Q_alloc | apply Kd.Q_drewN | apply Kd.Q_drew)); exact HO_9.out)) k_ hk⟩)); (case aO => exact (by (with_reducible repeat (first | apply Kd.R_alloc | apply Kd.R_drewN | apply Kd.R_drew)); exact HO_10.out)); (case aS => exact (below_size (by repeat (first | (with_reducible first | exact HB.out | apply below_alloc | apply pw_below_drewN | apply below_drew1) | exact HB.out)))); (case aL => have := LMc34.out; omega); intro v202 w38 ho hb hg hat; rw [← Ny201.out] at ho; have n0_ := Aside0.mk (Kd.Q_after (ok := (fun k_ => some k_ ≠ (.slice (some ad189) x9_1.length co36 : Value).ownBlock)) (by (with_reducible repeat (first | apply Kd.Q_alloc | apply Kd.Q_drewN | apply Kd.Q_drew)); exact HO_8.out) hg hat); have n1_ := Aside0.mk (Kd.Q_after (ok := (fun k_ => some k_ ≠ (.slice (some ad191) x8_1.length co37 : Value).ownBlock)) (by (with_reducible repeat (first | apply Kd.Q_alloc | apply Kd.Q_drewN | apply Kd.Q_drew)); exact HO_9.out) hg hat); have n2_ := Aside0.mk (hb); have n3_ := Aside0.mk (ho); clear HO_8; clear HO_9; clear HB; clear HO_10; have HO_8 := n0_; have HO_9 := n1_; have HB := n2_; have HO203 := n3_; clear n0_ n1_ n2_ n3_; clear ho hb hg hat; have q39 : (1 : Int) ≤ ((x8_1.length : Int) : Int) := of_decide_eq_true (by first | (with_reducible assumption) | assumption); obtain ⟨i039, hi039, _, hsz39, _⟩ := info_parts info3; have hcut39 := cut_from (P := Try.prog) 47 3 .i64 Try.underlying47 hi039 1 hsz39 (some ad191) x8_1.length co37 1 (by omega) q39; have hr39 := Kd.Q_drop (k := (1 : Int).toNat) HO_8.out (by omega); obtain ⟨A39, hA39⟩ : ∃ A1, A1 = (if co37 = (1 : Int).toNat then (some ad191) else ((some ad191) : Option Addr).map (·.add ((1 : Int).toNat * 1))) := ⟨_, rfl⟩; obtain ⟨c39, hc39⟩ : ∃ c1, c1 = co37 - (1 : Int).toNat := ⟨_, rfl⟩; have hy39 : y204.length = x8_1.length - (1 : Int).toNat := (by rw [Ny204.out, List.length_drop]); rw [← Ny204.out] at hr39; rw [← hy39, ← hA39, ← hc39] at hcut39; replace hr39 : Kd.Q (Kd.int .i64) 3 w38 w.heap.size (fun k_ => some k_ ≠ (.slice (some ad189) x9_1.length co36 : Value).ownBlock ∧ some k_ ≠ (v202 : Value).ownBlock) (.slice A39 y204.length c39) y204 := (by rw [hA39, hc39, hy39]; exact hr39); have HE39 : Aside0 ((Value.slice A39 y204.length c39).ownBlock = (.slice (some ad191) x8_1.length co37 : Value).ownBlock) := ⟨by rw [hA39]; split <;> (cases ((some ad191) : Option Addr) <;> rfl)⟩; clear hy39 hi039 hsz39 HO_8 hA39 hc39; have HO206 := Aside0.mk hr39; clear hr39; replace q39 := eq_true q39; have n_ := Aside0.mk (Kd.Q_mono (ok' := fun k_ => (some k_ ≠ (.slice A39 y204.length c39 : Value).ownBlock ∧ some k_ ≠ (v202 : Value).ownBlock)) HO_9.out (fun k_ hk => ⟨(by rw [HE39.out]; exact hk.1), hk.2⟩)); clear HO_9; have HO_9 := n_; clear n_; have n_ := Aside0.mk (Kd.R_mono (ok' := fun k_ => (some k_ ≠ (.slice A39 y204.length c39 : Value).ownBlock ∧ some k_ ≠ (.slice (some ad189) x9_1.length co36 : Value).ownBlock)) HO203.out (fun k_ hk => ⟨(by rw [HE39.out]; exact hk.1), hk.2⟩)); clear HO203; have HO203 := n_; clear n_))
                                  repeat (go_quiet (first | ((with_reducible refine gate_builtin (b := .append) (xs := #[.tmp 72, .tmp 76]) rfl ?_); (try (refine gate_guard (by rfl) ?_; dsimp only)); at_builtin; refine Kd.R_append (Kd.int .i64) (w0 := w) w.heap.size rfl (.tmp 72) (.tmp 76) 47 3 (.int .i64 0) 8 rfl Try.underlying47 info3 rfl (by decide) (by omega) u10 x10_1 (rd x8_1 0) [.int .i64 (rd x8_1 0)] (fun k_ => some k_ ≠ (.slice (some ad191) x8_1.length co37 : Value).ownBlock ∧ some k_ ≠ (.slice (some ad189) x9_1.length co36 : Value).ownBlock) (fun _ => False) rfl rfl ?aP (fun _ hk => hk.elim) ?aF ?aO ?aB ?aS ?aL ?_; (case aP => exact rfl); (case aB => exact (by repeat (first | (with_reducible first | exact HB.out | apply below_alloc | apply pw_below_drewN | apply below_drew1) | exact HB.out))); (case aF => exact (fun k_ hk => ⟨Kd.fresh' (Kd.Q_lt (by (with_reducible repeat (first | apply Kd.Q_alloc | apply Kd.Q_drewN | apply Kd.Q_drew)); exact HO_8.out)) k_ hk, Kd.fresh' (Kd.Q_lt (by (with_reducible repeat (first | apply Kd.Q_alloc | apply Kd.Q_drewN | apply Kd.Q_drew)); exact HO_9.out)) k_ hk⟩)); (case aO => exact (by (with_reducible repeat (first | apply Kd.R_alloc | apply Kd.R_drewN | apply Kd.R_drew)); exact HO_10.out)); (case aS => exact (below_size (by repeat (first | (with_reducible first | exact HB.out | apply below_alloc | apply pw_below_drewN | apply below_drew1) | exact HB.out)))); (case aL => have := LMc34.out; omega); intro v202 w38 ho hb hg hat; rw [← Ny201.out] at ho; have n0_ := Aside0.mk (Kd.Q_after (ok := (fun k_ => some k_ ≠ (.slice (some ad189) x9_1.length co36 : Value).ownBlock)) (by (with_reducible repeat (first | apply Kd.Q_alloc | apply Kd.Q_drewN | apply Kd.Q_drew)); exact HO_8.out) hg hat); have n1_ := Aside0.mk (Kd.Q_after (ok := (fun k_ => some k_ ≠ (.slice (some ad191) x8_1.length co37 : Value).ownBlock)) (by (with_reducible repeat (first | apply Kd.Q_alloc | apply Kd.Q_drewN | apply Kd.Q_drew)); exact HO_9.out) hg hat); have n2_ := Aside0.mk (hb); have n3_ := Aside0.mk (ho); clear HO_8; clear HO_9; clear HB; clear HO_10; have HO_8 := n0_; have HO_9 := n1_; have HB := n2_; have HO203 := n3_; clear n0_ n1_ n2_ n3_; clear ho hb hg hat; have q39 : (1 : Int) ≤ ((x8_1.length : Int) : Int) := of_decide_eq_true (by first | (with_reducible assumption) | assumption); obtain ⟨i039, hi039, _, hsz39, _⟩ := info_parts info3; have hcut39 := cut_from (P := Try.prog) 47 3 .i64 Try.underlying47 hi039 1 hsz39 (some ad191) x8_1.length co37 1 (by omega) q39; have hr39 := Kd.Q_drop (k := (1 : Int).toNat) HO_8.out (by omega); obtain ⟨A39, hA39⟩ : ∃ A1, A1 = (if co37 = (1 : Int).toNat then (some ad191) else ((some ad191) : Option Addr).map (·.add ((1 : Int).toNat * 1))) := ⟨_, rfl⟩; obtain ⟨c39, hc39⟩ : ∃ c1, c1 = co37 - (1 : Int).toNat := ⟨_, rfl⟩; have hy39 : y204.length = x8_1.length - (1 : Int).toNat := (by rw [Ny204.out, List.length_drop]); rw [← Ny204.out] at hr39; rw [← hy39, ← hA39, ← hc39] at hcut39; replace hr39 : Kd.Q (Kd.int .i64) 3 w38 w.heap.size (fun k_ => some k_ ≠ (.slice (some ad189) x9_1.length co36 : Value).ownBlock ∧ some k_ ≠ (v202 : Value).ownBlock) (.slice A39 y204.length c39) y204 := (by rw [hA39, hc39, hy39]; exact hr39); have HE39 : Aside0 ((Value.slice A39 y204.length c39).ownBlock = (.slice (some ad191) x8_1.length co37 : Value).ownBlock) := ⟨by rw [hA39]; split <;> (cases ((some ad191) : Option Addr) <;> rfl)⟩; clear hy39 hi039 hsz39 HO_8 hA39 hc39; have HO206 := Aside0.mk hr39; clear hr39; replace q39 := eq_true q39; have n_ := Aside0.mk (Kd.Q_mono (ok' := fun k_ => (some k_ ≠ (.slice A39 y204.length c39 : Value).ownBlock ∧ some k_ ≠ (v202 : Value).ownBlock)) HO_9.out (fun k_ hk => ⟨(by rw [HE39.out]; exact hk.1), hk.2⟩)); clear HO_9; have HO_9 := n_; clear n_; have n_ := Aside0.mk (Kd.R_mono (ok' := fun k_ => (some k_ ≠ (.slice A39 y204.length c39 : Value).ownBlock ∧ some k_ ≠ (.slice (some ad189) x9_1.length co36 : Value).ownBlock)) HO203.out (fun k_ hk => ⟨(by rw [HE39.out]; exact hk.1), hk.2⟩)); clear HO203; have HO203 := n_; clear n_)); try go_wp2_with (first | ((with_reducible refine gate_builtin (b := .append) (xs := #[.tmp 72, .tmp 76]) rfl ?_); (try (refine gate_guard (by rfl) ?_; dsimp only)); at_builtin; refine Kd.R_append (Kd.int .i64) (w0 := w) w.heap.size rfl (.tmp 72) (.tmp 76) 47 3 (.int .i64 0) 8 rfl Try.underlying47 info3 rfl (by decide) (by omega) u10 x10_1 (rd x8_1 0) [.int .i64 (rd x8_1 0)] (fun k_ => some k_ ≠ (.slice (some ad191) x8_1.length co37 : Value).ownBlock ∧ some k_ ≠ (.slice (some ad189) x9_1.length co36 : Value).ownBlock) (fun _ => False) rfl rfl ?aP (fun _ hk => hk.elim) ?aF ?aO ?aB ?aS ?aL ?_; (case aP => exact rfl); (case aB => exact (by repeat (first | (with_reducible first | exact HB.out | apply below_alloc | apply pw_below_drewN | apply below_drew1) | exact HB.out))); (case aF => exact (fun k_ hk => ⟨Kd.fresh' (Kd.Q_lt (by (with_reducible repeat (first | apply Kd.Q_alloc | apply Kd.Q_drewN | apply Kd.Q_drew)); exact HO_8.out)) k_ hk, Kd.fresh' (Kd.Q_lt (by (with_reducible repeat (first | apply Kd.Q_alloc | apply Kd.Q_drewN | apply Kd.Q_drew)); exact HO_9.out)) k_ hk⟩)); (case aO => exact (by (with_reducible repeat (first | apply Kd.R_alloc | apply Kd.R_drewN | apply Kd.R_drew)); exact HO_10.out)); (case aS => exact (below_size (by repeat (first | (with_reducible first | exact HB.out | apply below_alloc | apply pw_below_drewN | apply below_drew1) | exact HB.out)))); (case aL => have := LMc34.out; omega); intro v202 w38 ho hb hg hat; rw [← Ny201.out] at ho; have n0_ := Aside0.mk (Kd.Q_after (ok := (fun k_ => some k_ ≠ (.slice (some ad189) x9_1.length co36 : Value).ownBlock)) (by (with_reducible repeat (first | apply Kd.Q_alloc | apply Kd.Q_drewN | apply Kd.Q_drew)); exact HO_8.out) hg hat); have n1_ := Aside0.mk (Kd.Q_after (ok := (fun k_ => some k_ ≠ (.slice (some ad191) x8_1.length co37 : Value).ownBlock)) (by (with_reducible repeat (first | apply Kd.Q_alloc | apply Kd.Q_drewN | apply Kd.Q_drew)); exact HO_9.out) hg hat); have n2_ := Aside0.mk (hb); have n3_ := Aside0.mk (ho); clear HO_8; clear HO_9; clear HB; clear HO_10; have HO_8 := n0_; have HO_9 := n1_; have HB := n2_; have HO203 := n3_; clear n0_ n1_ n2_ n3_; clear ho hb hg hat; have q39 : (1 : Int) ≤ ((x8_1.length : Int) : Int) := of_decide_eq_true (by first | (with_reducible assumption) | assumption); obtain ⟨i039, hi039, _, hsz39, _⟩ := info_parts info3; have hcut39 := cut_from (P := Try.prog) 47 3 .i64 Try.underlying47 hi039 1 hsz39 (some ad191) x8_1.length co37 1 (by omega) q39; have hr39 := Kd.Q_drop (k := (1 : Int).toNat) HO_8.out (by omega); obtain ⟨A39, hA39⟩ : ∃ A1, A1 = (if co37 = (1 : Int).toNat then (some ad191) else ((some ad191) : Option Addr).map (·.add ((1 : Int).toNat * 1))) := ⟨_, rfl⟩; obtain ⟨c39, hc39⟩ : ∃ c1, c1 = co37 - (1 : Int).toNat := ⟨_, rfl⟩; have hy39 : y204.length = x8_1.length - (1 : Int).toNat := (by rw [Ny204.out, List.length_drop]); rw [← Ny204.out] at hr39; rw [← hy39, ← hA39, ← hc39] at hcut39; replace hr39 : Kd.Q (Kd.int .i64) 3 w38 w.heap.size (fun k_ => some k_ ≠ (.slice (some ad189) x9_1.length co36 : Value).ownBlock ∧ some k_ ≠ (v202 : Value).ownBlock) (.slice A39 y204.length c39) y204 := (by rw [hA39, hc39, hy39]; exact hr39); have HE39 : Aside0 ((Value.slice A39 y204.length c39).ownBlock = (.slice (some ad191) x8_1.length co37 : Value).ownBlock) := ⟨by rw [hA39]; split <;> (cases ((some ad191) : Option Addr) <;> rfl)⟩; clear hy39 hi039 hsz39 HO_8 hA39 hc39; have HO206 := Aside0.mk hr39; clear hr39; replace q39 := eq_true q39; have n_ := Aside0.mk (Kd.Q_mono (ok' := fun k_ => (some k_ ≠ (.slice A39 y204.length c39 : Value).ownBlock ∧ some k_ ≠ (v202 : Value).ownBlock)) HO_9.out (fun k_ hk => ⟨(by rw [HE39.out]; exact hk.1), hk.2⟩)); clear HO_9; have HO_9 := n_; clear n_; have n_ := Aside0.mk (Kd.R_mono (ok' := fun k_ => (some k_ ≠ (.slice A39 y204.length c39 : Value).ownBlock ∧ some k_ ≠ (.slice (some ad189) x9_1.length co36 : Value).ownBlock)) HO203.out (fun k_ hk => ⟨(by rw [HE39.out]; exact hk.1), hk.2⟩)); clear HO203; have HO203 := n_; clear n_)))
                                  go_roundg kj14
                                  case measure => have := HK1.out; have := HJ14.out; omega
                                  case rel => exact ⟨(y204), (x9_1), (y201), H', ⟨by have := HK1.out; have := HJ14.out; omega⟩, ⟨by (with_reducible repeat (first | apply Kd.Q_alloc | apply Kd.Q_drewN | apply Kd.Q_drew)); exact HO206.out⟩, ⟨by (with_reducible repeat (first | apply Kd.Q_alloc | apply Kd.Q_drewN | apply Kd.Q_drew)); exact HO_9.out⟩, ⟨by (with_reducible repeat (first | apply Kd.R_alloc | apply Kd.R_drewN | apply Kd.R_drew)); exact HO203.out⟩, ⟨by repeat (first | (with_reducible first | exact HB.out | apply below_alloc | apply pw_below_drewN | apply below_drew1) | exact HB.out)⟩⟩
                                · rw [if_neg c35] at H
                                  exact absurd H (by simp)
                              · rw [if_neg c34] at H
                                exact absurd H (by simp)
                          · rw [if_neg c26] at H
                            exact absurd H (by simp)
                        · rw [if_neg c25] at H
                          exact absurd H (by simp)
                      · rw [if_neg c24] at H
                        exact absurd H (by simp)
                    · rw [if_neg c23] at H
                      exact absurd H (by simp)
                  · rw [if_neg c22] at H
                    exact absurd H (by simp)
                · rw [if_neg c21] at H
                  exact absurd H (by simp)
              · replace c20 := Bool.eq_false_iff.mpr c20
                subst c20
                have H1 : (if x10_1.length + x8_1.length < 17592186044416 then ((some (x10_1 ++ x8_1 : List Int)).bind fun y207 => (if y207.length + x9_1.length < 17592186044416 then (some (y207 ++ x9_1)) else (none))) else (none)) = some r := by rw [if_neg (show ¬ (false = true) by decide)] at H; exact H
                clear H
                have H := H1
                clear H1
                by_cases c40 : x10_1.length + x8_1.length < 17592186044416
                · rw [if_pos c40] at H
                  have LMc40 := Aside0.mk c40
                  clear c40
                  obtain ⟨y207, hy207⟩ : ∃ y_ : List Int, y_ = (x10_1 ++ x8_1) := ⟨_, rfl⟩
                  replace H : (if y207.length + x9_1.length < 17592186044416 then (some (y207 ++ x9_1)) else (none)) = some r := by first | (rw [hy207]; with_reducible exact H) | (have H2_ := (Option.bind_some _ _).symm.trans H; rw [hy207]; with_reducible exact H2_) | (have H2_ := (Option.bind_some _ _).symm.trans H; with_reducible exact H2_) | with_reducible exact H | (rw [hy207]; exact H) | exact H
                  have Ny207 := Aside0.mk hy207
                  clear hy207
                  by_cases c41 : y207.length + x9_1.length < 17592186044416
                  · rw [if_pos c41] at H
                    have LMc41 := Aside0.mk c41
                    clear c41
                    obtain ⟨y210, hy210⟩ : ∃ y_ : List Int, y_ = (y207 ++ x9_1) := ⟨_, rfl⟩
                    replace H : (some y210) = some r := by first | (rw [hy210]; with_reducible exact H) | (have H2_ := (Option.bind_some _ _).symm.trans H; rw [hy210]; with_reducible exact H2_) | (have H2_ := (Option.bind_some _ _).symm.trans H; with_reducible exact H2_) | with_reducible exact H | (rw [hy210]; exact H) | exact H
                    have Ny210 := Aside0.mk hy210
                    clear hy210
                    obtain rfl := Option.some.inj H
                    obtain ⟨Ao43, co43, eo43, _⟩ := Kd.Q_slice HO_8.out
                    subst eo43
                    go_wp2_with (first | ((with_reducible refine gate_builtin (b := .append) (xs := #[.tmp 80, .tmp 81]) rfl ?_); (try (refine gate_guard (by rfl) ?_; dsimp only)); at_builtin; refine Kd.R_append_rows (Kd.int .i64) (w0 := w) w.heap.size rfl (.tmp 80) (.tmp 81) 47 3 (.int .i64 0) 8 rfl Try.underlying47 info3 rfl (by decide) (by omega) u10 x10_1 x8_1 _ _ _ (fun k_ => some k_ ≠ (.slice Ao43 x8_1.length co43 : Value).ownBlock ∧ some k_ ≠ (u9 : Value).ownBlock) (fun _ => False) rfl rfl ?aO ?aR (fun _ _ h => h) (fun _ h => h.elim) ?aF ?aB ?aS ?aL ?_; (case aR => repeat (first | exact (Kd.Q_reads' HO_8.out).2.2 | (with_reducible refine Kd.C_alloc ?_ _) | (with_reducible refine Kd.C_drewN ?_ _) | (with_reducible refine Kd.C_drew ?_))); (case aB => exact (by repeat (first | (with_reducible first | exact HB.out | apply below_alloc | apply pw_below_drewN | apply below_drew1) | exact HB.out))); (case aF => exact (fun k_ hk => ⟨Kd.fresh' (Kd.Q_lt (by (with_reducible repeat (first | apply Kd.Q_alloc | apply Kd.Q_drewN | apply Kd.Q_drew)); exact HO_8.out)) k_ hk, Kd.fresh' (Kd.Q_lt (by (with_reducible repeat (first | apply Kd.Q_alloc | apply Kd.Q_drewN | apply Kd.Q_drew)); exact HO_9.out)) k_ hk⟩)); (case aO => exact (by (with_reducible repeat (first | apply Kd.R_alloc | apply Kd.R_drewN | apply Kd.R_drew)); exact HO_10.out)); (case aS => exact (below_size (by repeat (first | (with_reducible first | exact HB.out | apply below_alloc | apply pw_below_drewN | apply below_drew1) | exact HB.out)))); (case aL => have := LMc40.out; omega); intro v208 w42 ho hb hg hat; rw [← Ny207.out] at ho; have n0_ := Aside0.mk (Kd.Q_after (ok := (fun k_ => some k_ ≠ (u9 : Value).ownBlock)) (by (with_reducible repeat (first | apply Kd.Q_alloc | apply Kd.Q_drewN | apply Kd.Q_drew)); exact HO_8.out) hg hat); have n1_ := Aside0.mk (Kd.Q_after (ok := (fun k_ => some k_ ≠ (.slice Ao43 x8_1.length co43 : Value).ownBlock)) (by (with_reducible repeat (first | apply Kd.Q_alloc | apply Kd.Q_drewN | apply Kd.Q_drew)); exact HO_9.out) hg hat); have n2_ := Aside0.mk (hb); have n3_ := Aside0.mk (ho); clear HO_8; clear HO_9; clear HB; clear HO_10; have HO_8 := n0_; have HO_9 := n1_; have HB := n2_; have HO209 := n3_; clear n0_ n1_ n2_ n3_; clear ho hb hg hat; obtain ⟨Ao45, co45, eo45, _⟩ := Kd.Q_slice HO_9.out; subst eo45) | ((with_reducible refine gate_builtin (b := .append) (xs := #[.tmp 83, .tmp 84]) rfl ?_); (try (refine gate_guard (by rfl) ?_; dsimp only)); at_builtin; refine Kd.R_append_rows (Kd.int .i64) (w0 := w) w.heap.size rfl (.tmp 83) (.tmp 84) 47 3 (.int .i64 0) 8 rfl Try.underlying47 info3 rfl (by decide) (by omega) v208 y207 x9_1 _ _ _ (fun k_ => some k_ ≠ (.slice Ao43 x8_1.length co43 : Value).ownBlock ∧ some k_ ≠ (.slice Ao45 x9_1.length co45 : Value).ownBlock) (fun _ => False) rfl rfl ?aO ?aR (fun _ _ h => h) (fun _ h => h.elim) ?aF ?aB ?aS ?aL ?_; (case aR => repeat (first | exact (Kd.Q_reads' HO_9.out).2.2 | (with_reducible refine Kd.C_alloc ?_ _) | (with_reducible refine Kd.C_drewN ?_ _) | (with_reducible refine Kd.C_drew ?_))); (case aB => exact (by repeat (first | (with_reducible first | exact HB.out | apply below_alloc | apply pw_below_drewN | apply below_drew1) | exact HB.out))); (case aF => exact (fun k_ hk => ⟨Kd.fresh' (Kd.Q_lt (by (with_reducible repeat (first | apply Kd.Q_alloc | apply Kd.Q_drewN | apply Kd.Q_drew)); exact HO_8.out)) k_ hk, Kd.fresh' (Kd.Q_lt (by (with_reducible repeat (first | apply Kd.Q_alloc | apply Kd.Q_drewN | apply Kd.Q_drew)); exact HO_9.out)) k_ hk⟩)); (case aO => exact (by (with_reducible repeat (first | apply Kd.R_alloc | apply Kd.R_drewN | apply Kd.R_drew)); exact HO209.out)); (case aS => exact (below_size (by repeat (first | (with_reducible first | exact HB.out | apply below_alloc | apply pw_below_drewN | apply below_drew1) | exact HB.out)))); (case aL => have := LMc41.out; omega); intro v211 w44 ho hb hg hat; rw [← Ny210.out] at ho; have n0_ := Aside0.mk (Kd.Q_after (ok := (fun k_ => some k_ ≠ (.slice Ao45 x9_1.length co45 : Value).ownBlock)) (by (with_reducible repeat (first | apply Kd.Q_alloc | apply Kd.Q_drewN | apply Kd.Q_drew)); exact HO_8.out) hg hat); have n1_ := Aside0.mk (Kd.Q_after (ok := (fun k_ => some k_ ≠ (.slice Ao43 x8_1.length co43 : Value).ownBlock)) (by (with_reducible repeat (first | apply Kd.Q_alloc | apply Kd.Q_drewN | apply Kd.Q_drew)); exact HO_9.out) hg hat); have n2_ := Aside0.mk (hb); have n3_ := Aside0.mk (ho); clear HO_8; clear HO_9; clear HB; clear HO209; have HO_8 := n0_; have HO_9 := n1_; have HB := n2_; have HO212 := n3_; clear n0_ n1_ n2_ n3_; clear ho hb hg hat))
                    repeat (go_quiet (first | ((with_reducible refine gate_builtin (b := .append) (xs := #[.tmp 80, .tmp 81]) rfl ?_); (try (refine gate_guard (by rfl) ?_; dsimp only)); at_builtin; refine Kd.R_append_rows (Kd.int .i64) (w0 := w) w.heap.size rfl (.tmp 80) (.tmp 81) 47 3 (.int .i64 0) 8 rfl Try.underlying47 info3 rfl (by decide) (by omega) u10 x10_1 x8_1 _ _ _ (fun k_ => some k_ ≠ (.slice Ao43 x8_1.length co43 : Value).ownBlock ∧ some k_ ≠ (u9 : Value).ownBlock) (fun _ => False) rfl rfl ?aO ?aR (fun _ _ h => h) (fun _ h => h.elim) ?aF ?aB ?aS ?aL ?_; (case aR => repeat (first | exact (Kd.Q_reads' HO_8.out).2.2 | (with_reducible refine Kd.C_alloc ?_ _) | (with_reducible refine Kd.C_drewN ?_ _) | (with_reducible refine Kd.C_drew ?_))); (case aB => exact (by repeat (first | (with_reducible first | exact HB.out | apply below_alloc | apply pw_below_drewN | apply below_drew1) | exact HB.out))); (case aF => exact (fun k_ hk => ⟨Kd.fresh' (Kd.Q_lt (by (with_reducible repeat (first | apply Kd.Q_alloc | apply Kd.Q_drewN | apply Kd.Q_drew)); exact HO_8.out)) k_ hk, Kd.fresh' (Kd.Q_lt (by (with_reducible repeat (first | apply Kd.Q_alloc | apply Kd.Q_drewN | apply Kd.Q_drew)); exact HO_9.out)) k_ hk⟩)); (case aO => exact (by (with_reducible repeat (first | apply Kd.R_alloc | apply Kd.R_drewN | apply Kd.R_drew)); exact HO_10.out)); (case aS => exact (below_size (by repeat (first | (with_reducible first | exact HB.out | apply below_alloc | apply pw_below_drewN | apply below_drew1) | exact HB.out)))); (case aL => have := LMc40.out; omega); intro v208 w42 ho hb hg hat; rw [← Ny207.out] at ho; have n0_ := Aside0.mk (Kd.Q_after (ok := (fun k_ => some k_ ≠ (u9 : Value).ownBlock)) (by (with_reducible repeat (first | apply Kd.Q_alloc | apply Kd.Q_drewN | apply Kd.Q_drew)); exact HO_8.out) hg hat); have n1_ := Aside0.mk (Kd.Q_after (ok := (fun k_ => some k_ ≠ (.slice Ao43 x8_1.length co43 : Value).ownBlock)) (by (with_reducible repeat (first | apply Kd.Q_alloc | apply Kd.Q_drewN | apply Kd.Q_drew)); exact HO_9.out) hg hat); have n2_ := Aside0.mk (hb); have n3_ := Aside0.mk (ho); clear HO_8; clear HO_9; clear HB; clear HO_10; have HO_8 := n0_; have HO_9 := n1_; have HB := n2_; have HO209 := n3_; clear n0_ n1_ n2_ n3_; clear ho hb hg hat; obtain ⟨Ao45, co45, eo45, _⟩ := Kd.Q_slice HO_9.out; subst eo45) | ((with_reducible refine gate_builtin (b := .append) (xs := #[.tmp 83, .tmp 84]) rfl ?_); (try (refine gate_guard (by rfl) ?_; dsimp only)); at_builtin; refine Kd.R_append_rows (Kd.int .i64) (w0 := w) w.heap.size rfl (.tmp 83) (.tmp 84) 47 3 (.int .i64 0) 8 rfl Try.underlying47 info3 rfl (by decide) (by omega) v208 y207 x9_1 _ _ _ (fun k_ => some k_ ≠ (.slice Ao43 x8_1.length co43 : Value).ownBlock ∧ some k_ ≠ (.slice Ao45 x9_1.length co45 : Value).ownBlock) (fun _ => False) rfl rfl ?aO ?aR (fun _ _ h => h) (fun _ h => h.elim) ?aF ?aB ?aS ?aL ?_; (case aR => repeat (first | exact (Kd.Q_reads' HO_9.out).2.2 | (with_reducible refine Kd.C_alloc ?_ _) | (with_reducible refine Kd.C_drewN ?_ _) | (with_reducible refine Kd.C_drew ?_))); (case aB => exact (by repeat (first | (with_reducible first | exact HB.out | apply below_alloc | apply pw_below_drewN | apply below_drew1) | exact HB.out))); (case aF => exact (fun k_ hk => ⟨Kd.fresh' (Kd.Q_lt (by (with_reducible repeat (first | apply Kd.Q_alloc | apply Kd.Q_drewN | apply Kd.Q_drew)); exact HO_8.out)) k_ hk, Kd.fresh' (Kd.Q_lt (by (with_reducible repeat (first | apply Kd.Q_alloc | apply Kd.Q_drewN | apply Kd.Q_drew)); exact HO_9.out)) k_ hk⟩)); (case aO => exact (by (with_reducible repeat (first | apply Kd.R_alloc | apply Kd.R_drewN | apply Kd.R_drew)); exact HO209.out)); (case aS => exact (below_size (by repeat (first | (with_reducible first | exact HB.out | apply below_alloc | apply pw_below_drewN | apply below_drew1) | exact HB.out)))); (case aL => have := LMc41.out; omega); intro v211 w44 ho hb hg hat; rw [← Ny210.out] at ho; have n0_ := Aside0.mk (Kd.Q_after (ok := (fun k_ => some k_ ≠ (.slice Ao45 x9_1.length co45 : Value).ownBlock)) (by (with_reducible repeat (first | apply Kd.Q_alloc | apply Kd.Q_drewN | apply Kd.Q_drew)); exact HO_8.out) hg hat); have n1_ := Aside0.mk (Kd.Q_after (ok := (fun k_ => some k_ ≠ (.slice Ao43 x8_1.length co43 : Value).ownBlock)) (by (with_reducible repeat (first | apply Kd.Q_alloc | apply Kd.Q_drewN | apply Kd.Q_drew)); exact HO_9.out) hg hat); have n2_ := Aside0.mk (hb); have n3_ := Aside0.mk (ho); clear HO_8; clear HO_9; clear HB; clear HO209; have HO_8 := n0_; have HO_9 := n1_; have HB := n2_; have HO212 := n3_; clear n0_ n1_ n2_ n3_; clear ho hb hg hat)); try go_wp2_with (first | ((with_reducible refine gate_builtin (b := .append) (xs := #[.tmp 80, .tmp 81]) rfl ?_); (try (refine gate_guard (by rfl) ?_; dsimp only)); at_builtin; refine Kd.R_append_rows (Kd.int .i64) (w0 := w) w.heap.size rfl (.tmp 80) (.tmp 81) 47 3 (.int .i64 0) 8 rfl Try.underlying47 info3 rfl (by decide) (by omega) u10 x10_1 x8_1 _ _ _ (fun k_ => some k_ ≠ (.slice Ao43 x8_1.length co43 : Value).ownBlock ∧ some k_ ≠ (u9 : Value).ownBlock) (fun _ => False) rfl rfl ?aO ?aR (fun _ _ h => h) (fun _ h => h.elim) ?aF ?aB ?aS ?aL ?_; (case aR => repeat (first | exact (Kd.Q_reads' HO_8.out).2.2 | (with_reducible refine Kd.C_alloc ?_ _) | (with_reducible refine Kd.C_drewN ?_ _) | (with_reducible refine Kd.C_drew ?_))); (case aB => exact (by repeat (first | (with_reducible first | exact HB.out | apply below_alloc | apply pw_below_drewN | apply below_drew1) | exact HB.out))); (case aF => exact (fun k_ hk => ⟨Kd.fresh' (Kd.Q_lt (by (with_reducible repeat (first | apply Kd.Q_alloc | apply Kd.Q_drewN | apply Kd.Q_drew)); exact HO_8.out)) k_ hk, Kd.fresh' (Kd.Q_lt (by (with_reducible repeat (first | apply Kd.Q_alloc | apply Kd.Q_drewN | apply Kd.Q_drew)); exact HO_9.out)) k_ hk⟩)); (case aO => exact (by (with_reducible repeat (first | apply Kd.R_alloc | apply Kd.R_drewN | apply Kd.R_drew)); exact HO_10.out)); (case aS => exact (below_size (by repeat (first | (with_reducible first | exact HB.out | apply below_alloc | apply pw_below_drewN | apply below_drew1) | exact HB.out)))); (case aL => have := LMc40.out; omega); intro v208 w42 ho hb hg hat; rw [← Ny207.out] at ho; have n0_ := Aside0.mk (Kd.Q_after (ok := (fun k_ => some k_ ≠ (u9 : Value).ownBlock)) (by (with_reducible repeat (first | apply Kd.Q_alloc | apply Kd.Q_drewN | apply Kd.Q_drew)); exact HO_8.out) hg hat); have n1_ := Aside0.mk (Kd.Q_after (ok := (fun k_ => some k_ ≠ (.slice Ao43 x8_1.length co43 : Value).ownBlock)) (by (with_reducible repeat (first | apply Kd.Q_alloc | apply Kd.Q_drewN | apply Kd.Q_drew)); exact HO_9.out) hg hat); have n2_ := Aside0.mk (hb); have n3_ := Aside0.mk (ho); clear HO_8; clear HO_9; clear HB; clear HO_10; have HO_8 := n0_; have HO_9 := n1_; have HB := n2_; have HO209 := n3_; clear n0_ n1_ n2_ n3_; clear ho hb hg hat; obtain ⟨Ao45, co45, eo45, _⟩ := Kd.Q_slice HO_9.out; subst eo45) | ((with_reducible refine gate_builtin (b := .append) (xs := #[.tmp 83, .tmp 84]) rfl ?_); (try (refine gate_guard (by rfl) ?_; dsimp only)); at_builtin; refine Kd.R_append_rows (Kd.int .i64) (w0 := w) w.heap.size rfl (.tmp 83) (.tmp 84) 47 3 (.int .i64 0) 8 rfl Try.underlying47 info3 rfl (by decide) (by omega) v208 y207 x9_1 _ _ _ (fun k_ => some k_ ≠ (.slice Ao43 x8_1.length co43 : Value).ownBlock ∧ some k_ ≠ (.slice Ao45 x9_1.length co45 : Value).ownBlock) (fun _ => False) rfl rfl ?aO ?aR (fun _ _ h => h) (fun _ h => h.elim) ?aF ?aB ?aS ?aL ?_; (case aR => repeat (first | exact (Kd.Q_reads' HO_9.out).2.2 | (with_reducible refine Kd.C_alloc ?_ _) | (with_reducible refine Kd.C_drewN ?_ _) | (with_reducible refine Kd.C_drew ?_))); (case aB => exact (by repeat (first | (with_reducible first | exact HB.out | apply below_alloc | apply pw_below_drewN | apply below_drew1) | exact HB.out))); (case aF => exact (fun k_ hk => ⟨Kd.fresh' (Kd.Q_lt (by (with_reducible repeat (first | apply Kd.Q_alloc | apply Kd.Q_drewN | apply Kd.Q_drew)); exact HO_8.out)) k_ hk, Kd.fresh' (Kd.Q_lt (by (with_reducible repeat (first | apply Kd.Q_alloc | apply Kd.Q_drewN | apply Kd.Q_drew)); exact HO_9.out)) k_ hk⟩)); (case aO => exact (by (with_reducible repeat (first | apply Kd.R_alloc | apply Kd.R_drewN | apply Kd.R_drew)); exact HO209.out)); (case aS => exact (below_size (by repeat (first | (with_reducible first | exact HB.out | apply below_alloc | apply pw_below_drewN | apply below_drew1) | exact HB.out)))); (case aL => have := LMc41.out; omega); intro v211 w44 ho hb hg hat; rw [← Ny210.out] at ho; have n0_ := Aside0.mk (Kd.Q_after (ok := (fun k_ => some k_ ≠ (.slice Ao45 x9_1.length co45 : Value).ownBlock)) (by (with_reducible repeat (first | apply Kd.Q_alloc | apply Kd.Q_drewN | apply Kd.Q_drew)); exact HO_8.out) hg hat); have n1_ := Aside0.mk (Kd.Q_after (ok := (fun k_ => some k_ ≠ (.slice Ao43 x8_1.length co43 : Value).ownBlock)) (by (with_reducible repeat (first | apply Kd.Q_alloc | apply Kd.Q_drewN | apply Kd.Q_drew)); exact HO_9.out) hg hat); have n2_ := Aside0.mk (hb); have n3_ := Aside0.mk (ho); clear HO_8; clear HO_9; clear HB; clear HO209; have HO_8 := n0_; have HO_9 := n1_; have HB := n2_; have HO212 := n3_; clear n0_ n1_ n2_ n3_; clear ho hb hg hat)))
                    go_ret
                    exact ⟨_, by first | rfl | (simp [errW_none, errW_some] <;> rfl) | (simp [*, errW_none, errW_some] <;> rfl), by (with_reducible repeat (first | apply Kd.R_alloc | apply Kd.R_drewN | apply Kd.R_drew)); exact Kd.R_mono HO212.out (fun _ hk => trivial), by repeat (first | (with_reducible first | exact HB.out | apply below_alloc | apply pw_below_drewN | apply below_drew1) | exact HB.out)⟩
                  · rw [if_neg c41] at H
                    exact absurd H (by simp)
                · rw [if_neg c40] at H
                  exact absurd H (by simp)
def crucibleref06_find.l0 : Nat → List (S37) → List Int → Int → Int → Int → Option (Int)
  | 0, _, _, _, _, _ => none
  | k + 1, x0, x1, x2, x7, x8 => if x7 < x8 then (if 0 ≤ (wrap64 (x7 + (wrap64 (Int.tdiv (wrap64 (x8 - x7)) 2)))) then (if (wrap64 (x7 + (wrap64 (Int.tdiv (wrap64 (x8 - x7)) 2)))) < (x1.length : Int) then (if 0 ≤ (rd x1 (wrap64 (x7 + (wrap64 (Int.tdiv (wrap64 (x8 - x7)) 2))))) then (if (rd x1 (wrap64 (x7 + (wrap64 (Int.tdiv (wrap64 (x8 - x7)) 2))))) < (x0.length : Int) then (if ((rd_T37 x0 (rd x1 (wrap64 (x7 + (wrap64 (Int.tdiv (wrap64 (x8 - x7)) 2)))))).f0) < x2 then (crucibleref06_find.l0 k x0 x1 x2 (wrap64 ((wrap64 (x7 + (wrap64 (Int.tdiv (wrap64 (x8 - x7)) 2)))) + 1)) x8) else (crucibleref06_find.l0 k x0 x1 x2 x7 (wrap64 (x7 + (wrap64 (Int.tdiv (wrap64 (x8 - x7)) 2)))))) else (none)) else (none)) else (none)) else (none)) else (if x7 < (x1.length : Int) then (if 0 ≤ x7 then (if 0 ≤ (rd x1 x7) then (if (rd x1 x7) < (x0.length : Int) then (if ((rd_T37 x0 (rd x1 x7)).f0) = x2 then (some (rd x1 x7)) else (some (-1))) else (none)) else (none)) else (none)) else (some (-1)))
def crucibleref06_find.f (k : Nat) (l0 : List (S37)) (l1 : List Int) (a2 : Int) : Option (Int) := crucibleref06_find.l0 k l0 l1 a2 0 (l1.length : Int)
set_option maxHeartbeats 8000000 in
set_option maxRecDepth 100000 in
theorem crucibleref06_find.calls (k : Nat) (A0 : Option Addr) (c0 : Nat) (l0 : List (S37)) (A1 : Option Addr) (c1 : Nat) (l1 : List Int) (a2 : Int) (r : Int) (w : World) (hr0 : Kd.C k37 w A0 l0.length l0) (hc0 : l0.length ≤ c0) (hr1 : Kd.C (Kd.int .i64) w A1 l1.length l1) (hc1 : l1.length ≤ c1) (h : crucibleref06_find.f k l0 l1 a2 = some r) :
    Calls Try.prog 26 #[.slice A0 l0.length c0, .slice A1 l1.length c1, .int .i64 a2] w fun e w' => e = .returned (.int .i64 r) ∧ Drawn0 w w' := by
  have HR0 := Aside0.mk hr0
  have HC0 := Aside0.mk hc0
  clear hr0 hc0
  have HR1 := Aside0.mk hr1
  have HC1 := Aside0.mk hc1
  clear hr1 hc1
  have H : (crucibleref06_find.l0 k l0 l1 a2 0 (l1.length : Int)) = some r := h
  clear h
  have H' := Aside0.mk H
  clear H
  go_enter Try.func26, Try.ntmps26
  go_wp2
  go_loopg [7, 8] k (fun kq v7 v8 w' => ∃ (x7_1 : Int) (x8_1 : Int), v7 = .int .i64 x7_1 ∧ v8 = .int .i64 x8_1 ∧ Aside0 (crucibleref06_find.l0 kq l0 l1 a2 x7_1 x8_1 = some r) ∧ Aside0 (kq ≤ k) ∧ Drawn0 w w')
  case atStart => exact ⟨(0), ((l1.length : Int)), (by first | rfl | (simp; done) | (simp [*]; done)), (by first | rfl | (simp; done) | (simp [*]; done)), H', ⟨Nat.le_refl _⟩, by repeat (first | exact Drawn0.refl _ | apply Drawn0.step)⟩
  case round =>
    clear H'
    try clear c1
    try clear c2
    try clear p2
    obtain ⟨x7_1, x8_1, rfl, rfl, HA, HK1, ⟨m1, rfl⟩⟩ := hrel
    cases gk with
    | zero => exact absurd HA.out (by simp [crucibleref06_find.l0])
    | succ k1 =>
      have H := HA.out
      clear HA
      simp only [crucibleref06_find.l0] at H
      by_cases c4 : x7_1 < x8_1
      · rw [if_pos c4] at H
        have c4b0 : decide (x7_1 < x8_1) = true := decide_eq_true c4
        clear c4
        obtain ⟨ji5, hji5⟩ : ∃ j_ : Int, (wrap64 (x7_1 + (wrap64 (Int.tdiv (wrap64 (x8_1 - x7_1)) 2)))) = j_ := ⟨_, rfl⟩
        replace H : (if 0 ≤ (ji5) then (if (ji5) < (l1.length : Int) then (if 0 ≤ (rd l1 (ji5)) then (if (rd l1 (ji5)) < (l0.length : Int) then (if ((rd_T37 l0 (rd l1 (ji5))).f0) < a2 then (crucibleref06_find.l0 k1 l0 l1 a2 (wrap64 ((ji5) + 1)) x8_1) else (crucibleref06_find.l0 k1 l0 l1 a2 x7_1 ji5)) else (none)) else (none)) else (none)) else (none)) = some r := by first | (rw [hji5] at H; exact H) | (simp only [hji5] at H ⊢; exact H)
        have hji5w : (IntKind.i64.wrap (x7_1 + (wrap64 (Int.tdiv (wrap64 (x8_1 - x7_1)) 2)))) = ji5 := (i64_w _).trans hji5
        by_cases c6 : 0 ≤ (ji5)
        · rw [if_pos c6] at H
          have c6b0 : decide (0 ≤ (ji5)) = true := decide_eq_true c6
          clear c6
          by_cases c7 : (ji5) < (l1.length : Int)
          · rw [if_pos c7] at H
            have c7b0 : decide ((ji5) < (l1.length : Int)) = true := decide_eq_true c7
            clear c7
            by_cases c8 : 0 ≤ (rd l1 (ji5))
            · rw [if_pos c8] at H
              have c8b0 : decide (0 ≤ (rd l1 (ji5))) = true := decide_eq_true c8
              clear c8
              by_cases c9 : (rd l1 (ji5)) < (l0.length : Int)
              · rw [if_pos c9] at H
                have c9b0 : decide ((rd l1 (ji5)) < (l0.length : Int)) = true := decide_eq_true c9
                clear c9
                by_cases c10 : ((rd_T37 l0 (rd l1 (ji5))).f0) < a2
                · rw [if_pos c10] at H
                  have c10b0 : decide (((rd_T37 l0 (rd l1 (ji5))).f0) < a2) = true := decide_eq_true c10
                  clear c10
                  have H' := Aside0.mk H
                  clear H
                  have p213 : 0 ≤ ((ji5) : Int) := of_decide_eq_true (by first | (with_reducible assumption) | assumption)
                  have q213 : (ji5) < (l1.length : Int) := of_decide_eq_true (by first | (with_reducible assumption) | assumption)
                  obtain ⟨ad213, e213, hx213_0⟩ := Kd.at_int HR1.out (ji5) p213 q213
                  cases e213
                  replace p213 := eq_true p213
                  replace q213 := eq_true q213
                  have p214 : 0 ≤ ((rd l1 (ji5)) : Int) := of_decide_eq_true (by first | (with_reducible assumption) | assumption)
                  have q214 : (rd l1 (ji5)) < (l0.length : Int) := of_decide_eq_true (by first | (with_reducible assumption) | assumption)
                  obtain ⟨ad214, e214, hx214_0, hx214_1, hx214_2, hx214_3, hx214_4, hx214_5, hx214_6⟩ := at_T37 HR0.out (rd l1 (ji5)) p214 q214
                  cases e214
                  replace p214 := eq_true p214
                  replace q214 := eq_true q214
                  go_wp2
                  go_roundg k1
                  case measure => have := HK1.out; omega
                  case rel => exact ⟨(wrap64 ((ji5) + 1)), (x8_1), (by first | rfl | (simp; done) | (simp only [← hji5] <;> (first | rfl | simp)) | (simp [*]; done)), (by first | rfl | (simp; done) | (simp [*]; done)), H', ⟨by have := HK1.out; omega⟩, by repeat (first | exact Drawn0.refl _ | apply Drawn0.step)⟩
                · rw [if_neg c10] at H
                  have c10b0 : decide (((rd_T37 l0 (rd l1 (ji5))).f0) < a2) = false := decide_eq_false c10
                  clear c10
                  have H' := Aside0.mk H
                  clear H
                  have p213 : 0 ≤ ((ji5) : Int) := of_decide_eq_true (by first | (with_reducible assumption) | assumption)
                  have q213 : (ji5) < (l1.length : Int) := of_decide_eq_true (by first | (with_reducible assumption) | assumption)
                  obtain ⟨ad213, e213, hx213_0⟩ := Kd.at_int HR1.out (ji5) p213 q213
                  cases e213
                  replace p213 := eq_true p213
                  replace q213 := eq_true q213
                  have p214 : 0 ≤ ((rd l1 (ji5)) : Int) := of_decide_eq_true (by first | (with_reducible assumption) | assumption)
                  have q214 : (rd l1 (ji5)) < (l0.length : Int) := of_decide_eq_true (by first | (with_reducible assumption) | assumption)
                  obtain ⟨ad214, e214, hx214_0, hx214_1, hx214_2, hx214_3, hx214_4, hx214_5, hx214_6⟩ := at_T37 HR0.out (rd l1 (ji5)) p214 q214
                  cases e214
                  replace p214 := eq_true p214
                  replace q214 := eq_true q214
                  go_wp2
                  go_roundg k1
                  case measure => have := HK1.out; omega
                  case rel => exact ⟨(x7_1), (ji5), (by first | rfl | (simp; done) | (simp [*]; done)), (by first | rfl | (simp; done) | (simp only [← hji5] <;> (first | rfl | simp)) | (simp [*]; done)), H', ⟨by have := HK1.out; omega⟩, by repeat (first | exact Drawn0.refl _ | apply Drawn0.step)⟩
              · rw [if_neg c9] at H
                exact absurd H (by simp)
            · rw [if_neg c8] at H
              exact absurd H (by simp)
          · rw [if_neg c7] at H
            exact absurd H (by simp)
        · rw [if_neg c6] at H
          exact absurd H (by simp)
      · rw [if_neg c4] at H
        have c4b0 : decide (x7_1 < x8_1) = false := decide_eq_false c4
        clear c4
        by_cases c11 : x7_1 < (l1.length : Int)
        · rw [if_pos c11] at H
          have c11b0 : decide (x7_1 < (l1.length : Int)) = true := decide_eq_true c11
          clear c11
          by_cases c12 : 0 ≤ x7_1
          · rw [if_pos c12] at H
            have c12b0 : decide (0 ≤ x7_1) = true := decide_eq_true c12
            clear c12
            by_cases c13 : 0 ≤ (rd l1 x7_1)
            · rw [if_pos c13] at H
              have c13b0 : decide (0 ≤ (rd l1 x7_1)) = true := decide_eq_true c13
              clear c13
              by_cases c14 : (rd l1 x7_1) < (l0.length : Int)
              · rw [if_pos c14] at H
                have c14b0 : decide ((rd l1 x7_1) < (l0.length : Int)) = true := decide_eq_true c14
                clear c14
                by_cases c15 : ((rd_T37 l0 (rd l1 x7_1)).f0) = a2
                · rw [if_pos c15] at H
                  have c15b0 : (((rd_T37 l0 (rd l1 x7_1)).f0) == a2) = true := beq_iff_eq.mpr c15
                  have c15b1 : (((rd_T37 l0 (rd l1 x7_1)).f0) != a2) = false := bne_eq_false_iff_eq.mpr c15
                  clear c15
                  obtain rfl := Option.some.inj H
                  have p215 : 0 ≤ (x7_1 : Int) := of_decide_eq_true (by first | (with_reducible assumption) | assumption)
                  have q215 : x7_1 < (l1.length : Int) := of_decide_eq_true (by first | (with_reducible assumption) | assumption)
                  obtain ⟨ad215, e215, hx215_0⟩ := Kd.at_int HR1.out x7_1 p215 q215
                  cases e215
                  replace p215 := eq_true p215
                  replace q215 := eq_true q215
                  have p216 : 0 ≤ ((rd l1 x7_1) : Int) := of_decide_eq_true (by first | (with_reducible assumption) | assumption)
                  have q216 : (rd l1 x7_1) < (l0.length : Int) := of_decide_eq_true (by first | (with_reducible assumption) | assumption)
                  obtain ⟨ad216, e216, hx216_0, hx216_1, hx216_2, hx216_3, hx216_4, hx216_5, hx216_6⟩ := at_T37 HR0.out (rd l1 x7_1) p216 q216
                  cases e216
                  replace p216 := eq_true p216
                  replace q216 := eq_true q216
                  have p217 : 0 ≤ (x7_1 : Int) := of_decide_eq_true (by first | (with_reducible assumption) | assumption)
                  have q217 : x7_1 < (l1.length : Int) := of_decide_eq_true (by first | (with_reducible assumption) | assumption)
                  obtain ⟨ad217, e217, hx217_0⟩ := Kd.at_int HR1.out x7_1 p217 q217
                  obtain rfl : ad215 = ad217 := (by injection e217)
                  replace p217 := eq_true p217
                  replace q217 := eq_true q217
                  go_wp2
                  go_ret
                  exact ⟨by first | rfl | (simp; done) | (simp [*]; done), by repeat (first | exact Drawn0.refl _ | apply Drawn0.step)⟩
                · rw [if_neg c15] at H
                  have c15b0 : (((rd_T37 l0 (rd l1 x7_1)).f0) == a2) = false := beq_eq_false_iff_ne.mpr c15
                  have c15b1 : (((rd_T37 l0 (rd l1 x7_1)).f0) != a2) = true := bne_iff_ne.mpr c15
                  obtain rfl := Option.some.inj H
                  have p215 : 0 ≤ (x7_1 : Int) := of_decide_eq_true (by first | (with_reducible assumption) | assumption)
                  have q215 : x7_1 < (l1.length : Int) := of_decide_eq_true (by first | (with_reducible assumption) | assumption)
                  obtain ⟨ad215, e215, hx215_0⟩ := Kd.at_int HR1.out x7_1 p215 q215
                  cases e215
                  replace p215 := eq_true p215
                  replace q215 := eq_true q215
                  have p216 : 0 ≤ ((rd l1 x7_1) : Int) := of_decide_eq_true (by first | (with_reducible assumption) | assumption)
                  have q216 : (rd l1 x7_1) < (l0.length : Int) := of_decide_eq_true (by first | (with_reducible assumption) | assumption)
                  obtain ⟨ad216, e216, hx216_0, hx216_1, hx216_2, hx216_3, hx216_4, hx216_5, hx216_6⟩ := at_T37 HR0.out (rd l1 x7_1) p216 q216
                  cases e216
                  replace p216 := eq_true p216
                  replace q216 := eq_true q216
                  go_wp2
                  go_ret
                  exact ⟨by first | rfl | (simp; done) | (simp [*]; done), by repeat (first | exact Drawn0.refl _ | apply Drawn0.step)⟩
              · rw [if_neg c14] at H
                exact absurd H (by simp)
            · rw [if_neg c13] at H
              exact absurd H (by simp)
          · rw [if_neg c12] at H
            exact absurd H (by simp)
        · rw [if_neg c11] at H
          have c11b0 : decide (x7_1 < (l1.length : Int)) = false := decide_eq_false c11
          clear c11
          obtain rfl := Option.some.inj H
          go_wp2
          go_ret
          exact ⟨by first | rfl | (simp; done) | (simp [*]; done), by repeat (first | exact Drawn0.refl _ | apply Drawn0.step)⟩
end Go.Proofs.Ytdhmnjoceeolcaa.GF
end
section
namespace Go.Proofs.Ytdhmnjoceeolcaa.GF
open Go.RowKit Go.Proofs.YtdhmnjoceeolcaaW.PrintWords Go.Proofs.YtdhmnjoceeolcaaW.PrintLast Go.Proofs.YtdhmnjoceeolcaaW.PrintMore
attribute [local go_sem] max2_int min2_int max_two min_two max_three min_three max_four min_four   -- for this text's walks alone
set_option linter.unusedVariables false
set_option linter.unusedSimpArgs false
mutual
def crucibleref06_Check.l0 : Nat → List (S37) → Int → Option (Int)
  | 0, _, _ => none
  | k + 1, x0, x3 => if x3 < (x0.length : Int) then (if 0 ≤ x3 then ((crucibleref06_line.f k ((rd_T37 x0 x3).f0) ((rd_T37 x0 x3).f1.f0) ((rd_T37 x0 x3).f1.f1) ((rd_T37 x0 x3).f1.f2) ((rd_T37 x0 x3).f1.f3) ((rd_T37 x0 x3).f1.f4) ((rd_T37 x0 x3).f2)).bind fun t219 => (if t219 = true then (crucibleref06_Check.l0 k x0 (wrap64 (x3 + 1))) else (some 1))) else (none)) else ((crucibleref06_sorted.f k x0 0 (x0.length : Int)).bind fun t220 => (crucibleref06_Check.l1 k x0 t220 1))
def crucibleref06_Check.l1 : Nat → List (S37) → List Int → Int → Option (Int)
  | 0, _, _, _ => none
  | k + 1, x0, x4, x5 => if x5 < (x4.length : Int) then (if 0 ≤ x5 then (if 0 ≤ (rd x4 x5) then (if (rd x4 x5) < (x0.length : Int) then (if 0 ≤ (wrap64 (x5 - 1)) then (if (wrap64 (x5 - 1)) < (x4.length : Int) then (if 0 ≤ (rd x4 (wrap64 (x5 - 1))) then (if (rd x4 (wrap64 (x5 - 1))) < (x0.length : Int) then (if ((rd_T37 x0 (rd x4 x5)).f0) = ((rd_T37 x0 (rd x4 (wrap64 (x5 - 1)))).f0) then (some 60) else (crucibleref06_Check.l1 k x0 x4 (wrap64 (x5 + 1)))) else (none)) else (none)) else (none)) else (none)) else (none)) else (none)) else (none)) else (crucibleref06_Check.l2 k x0 x4 0)
def crucibleref06_Check.l2 : Nat → List (S37) → List Int → Int → Option (Int)
  | 0, _, _, _ => none
  | k + 1, x0, x4, x6 => if x6 < (x0.length : Int) then (if 0 ≤ x6 then (if ((rd_T37 x0 x6).f2) > 0 then ((crucibleref06_find.f k x0 x4 ((rd_T37 x0 x6).f2)).bind fun t229 => (if t229 < 0 then (some 60) else (crucibleref06_Check.l2 k x0 x4 (wrap64 (x6 + 1))))) else (crucibleref06_Check.l2 k x0 x4 (wrap64 (x6 + 1)))) else (none)) else (some 0)
end
def crucibleref06_Check.f (k : Nat) (l0 : List (S37)) : Option (Int) := if (l0.length : Int) > 262144 then (some 3) else (crucibleref06_Check.l0 k l0 0)
set_option maxHeartbeats 8000000 in
set_option maxRecDepth 100000 in
theorem crucibleref06_Check.calls (k : Nat) (A0 : Option Addr) (c0 : Nat) (l0 : List (S37)) (r : Int) (w : World) (hr0 : Kd.C k37 w A0 l0.length l0) (hc0 : l0.length ≤ c0) (h : crucibleref06_Check.f k l0 = some r) :
    Calls Try.prog 12 #[.slice A0 l0.length c0] w fun e w' => e = .returned (.int .i64 r) ∧ Below w.heap.size w w' := by
  have hu37 := Try.underlying37
  have HR0 := Aside0.mk hr0
  have HC0 := Aside0.mk hc0
  clear hr0 hc0
  have HB := Aside0.mk (Below.refl w.heap.size w)
  have H : (if (l0.length : Int) > 262144 then (some 3) else (crucibleref06_Check.l0 k l0 0)) = some r := h
  clear h
  by_cases c2 : (l0.length : Int) > 262144
  · rw [if_pos c2] at H
    have c2b0 : decide (262144 < (l0.length : Int)) = true := decide_eq_true c2
    have c2b1 : decide (262144 < l0.length) = true := decide_eq_true (by omega)
    clear c2
    obtain rfl := Option.some.inj H
    go_enter Try.func12, Try.ntmps12
    go_wp2
    repeat (go_quiet (fail); try go_wp2)
    go_ret
    exact ⟨by first | rfl | (simp [errW_none, errW_some] <;> rfl) | (simp [*, errW_none, errW_some] <;> rfl), by repeat (first | (with_reducible first | exact HB.out | apply below_alloc | apply pw_below_drewN | apply below_drew1) | exact HB.out)⟩
  · rw [if_neg c2] at H
    have c2b0 : decide (262144 < (l0.length : Int)) = false := decide_eq_false c2
    have c2b1 : decide (262144 < l0.length) = false := decide_eq_false (by omega)
    clear c2
    have H' := Aside0.mk H
    clear H
    go_enter Try.func12, Try.ntmps12
    go_wp2
    repeat (go_quiet (fail); try go_wp2)
    go_loopg [3] k (fun kq v3 w' => ∃ (x3_1 : Int), v3 = .int .i64 x3_1 ∧ Aside0 (crucibleref06_Check.l0 kq l0 x3_1 = some r) ∧ Aside0 (kq ≤ k) ∧ Aside0 (Below w.heap.size w w'))
    case atStart => exact ⟨(0), (by first | rfl | (simp; done) | (simp [*]; done)), H', ⟨Nat.le_refl _⟩, ⟨by repeat (first | (with_reducible first | exact HB.out | apply below_alloc | apply pw_below_drewN | apply below_drew1) | exact HB.out)⟩⟩
    case round =>
      clear H'
      try clear c1
      try clear c2
      try clear c2b0
      try clear c2b1
      try clear p2
      obtain ⟨x3_1, rfl, HA, HK1, HB⟩ := hrel
      cases gk with
      | zero => exact absurd HA.out (by simp [crucibleref06_Check.l0])
      | succ k1 =>
        have H := HA.out
        clear HA
        simp only [crucibleref06_Check.l0] at H
        by_cases c3 : x3_1 < (l0.length : Int)
        · rw [if_pos c3] at H
          have c3b0 : decide (x3_1 < (l0.length : Int)) = true := decide_eq_true c3
          clear c3
          by_cases c4 : 0 ≤ x3_1
          · rw [if_pos c4] at H
            have c4b0 : decide (0 ≤ x3_1) = true := decide_eq_true c4
            clear c4
            replace H := Option.bind_eq_some_iff.mp H
            obtain ⟨t219, A50, H⟩ := H
            replace H : (if t219 = true then (crucibleref06_Check.l0 k1 l0 (wrap64 (x3_1 + 1))) else (some 1)) = some r := H
            have A5 := Aside0.mk A50
            clear A50
            by_cases c6 : t219 = true
            · subst c6
              have H1 : (crucibleref06_Check.l0 k1 l0 (wrap64 (x3_1 + 1))) = some r := by rw [if_pos rfl] at H; exact H
              clear H
              have H := H1
              clear H1
              have H' := Aside0.mk H
              clear H
              have p218 : 0 ≤ (x3_1 : Int) := of_decide_eq_true (by first | (with_reducible assumption) | assumption)
              have q218 : x3_1 < (l0.length : Int) := of_decide_eq_true (by first | (with_reducible assumption) | assumption)
              obtain ⟨ad218, e218, hx218_0, hx218_1, hx218_2, hx218_3, hx218_4, hx218_5, hx218_6⟩ := at_T37 HR0.out x3_1 p218 q218
              cases e218
              replace hx218_0 := (HB.out.cell (World.block_lt_of_cell? w _ hx218_0)).trans hx218_0
              replace hx218_1 := (HB.out.cell (World.block_lt_of_cell? w _ hx218_1)).trans hx218_1
              replace hx218_2 := (HB.out.cell (World.block_lt_of_cell? w _ hx218_2)).trans hx218_2
              replace hx218_3 := (HB.out.cell (World.block_lt_of_cell? w _ hx218_3)).trans hx218_3
              replace hx218_4 := (HB.out.cell (World.block_lt_of_cell? w _ hx218_4)).trans hx218_4
              replace hx218_5 := (HB.out.cell (World.block_lt_of_cell? w _ hx218_5)).trans hx218_5
              replace hx218_6 := (HB.out.cell (World.block_lt_of_cell? w _ hx218_6)).trans hx218_6
              replace p218 := eq_true p218
              replace q218 := eq_true q218
              go_wp2_with (first | (go_at_call 24; (with_reducible refine (crucibleref06_line.calls k1 ((rd_T37 l0 x3_1).f0) ((rd_T37 l0 x3_1).f1.f0) ((rd_T37 l0 x3_1).f1.f1) ((rd_T37 l0 x3_1).f1.f2) ((rd_T37 l0 x3_1).f1.f3) ((rd_T37 l0 x3_1).f1.f4) ((rd_T37 l0 x3_1).f2) true _ A5.out).mono ?_); rintro e w7 ⟨rfl, hb⟩; have n0_ := Aside0.mk (below_step (by repeat (first | (with_reducible first | exact HB.out | apply below_alloc | apply pw_below_drewN | apply below_drew1) | exact HB.out)) hb); clear HB; have HB := n0_; clear n0_; (try clear hb); (try clear hb2); (try clear hk); (try clear hi)))
              repeat (go_quiet (first | (go_at_call 24; (with_reducible refine (crucibleref06_line.calls k1 ((rd_T37 l0 x3_1).f0) ((rd_T37 l0 x3_1).f1.f0) ((rd_T37 l0 x3_1).f1.f1) ((rd_T37 l0 x3_1).f1.f2) ((rd_T37 l0 x3_1).f1.f3) ((rd_T37 l0 x3_1).f1.f4) ((rd_T37 l0 x3_1).f2) true _ A5.out).mono ?_); rintro e w7 ⟨rfl, hb⟩; have n0_ := Aside0.mk (below_step (by repeat (first | (with_reducible first | exact HB.out | apply below_alloc | apply pw_below_drewN | apply below_drew1) | exact HB.out)) hb); clear HB; have HB := n0_; clear n0_; (try clear hb); (try clear hb2); (try clear hk); (try clear hi))); try go_wp2_with (first | (go_at_call 24; (with_reducible refine (crucibleref06_line.calls k1 ((rd_T37 l0 x3_1).f0) ((rd_T37 l0 x3_1).f1.f0) ((rd_T37 l0 x3_1).f1.f1) ((rd_T37 l0 x3_1).f1.f2) ((rd_T37 l0 x3_1).f1.f3) ((rd_T37 l0 x3_1).f1.f4) ((rd_T37 l0 x3_1).f2) true _ A5.out).mono ?_); rintro e w7 ⟨rfl, hb⟩; have n0_ := Aside0.mk (below_step (by repeat (first | (with_reducible first | exact HB.out | apply below_alloc | apply pw_below_drewN | apply below_drew1) | exact HB.out)) hb); clear HB; have HB := n0_; clear n0_; (try clear hb); (try clear hb2); (try clear hk); (try clear hi))))
              go_roundg k1
              case measure => have := HK1.out; omega
              case rel => exact ⟨(wrap64 (x3_1 + 1)), (by first | rfl | (simp; done) | (simp [*]; done)), H', ⟨by have := HK1.out; omega⟩, ⟨by repeat (first | (with_reducible first | exact HB.out | apply below_alloc | apply pw_below_drewN | apply below_drew1) | exact HB.out)⟩⟩
            · replace c6 := Bool.eq_false_iff.mpr c6
              subst c6
              have H1 : (some 1) = some r := by rw [if_neg (show ¬ (false = true) by decide)] at H; exact H
              clear H
              have H := H1
              clear H1
              obtain rfl := Option.some.inj H
              have p218 : 0 ≤ (x3_1 : Int) := of_decide_eq_true (by first | (with_reducible assumption) | assumption)
              have q218 : x3_1 < (l0.length : Int) := of_decide_eq_true (by first | (with_reducible assumption) | assumption)
              obtain ⟨ad218, e218, hx218_0, hx218_1, hx218_2, hx218_3, hx218_4, hx218_5, hx218_6⟩ := at_T37 HR0.out x3_1 p218 q218
              cases e218
              replace hx218_0 := (HB.out.cell (World.block_lt_of_cell? w _ hx218_0)).trans hx218_0
              replace hx218_1 := (HB.out.cell (World.block_lt_of_cell? w _ hx218_1)).trans hx218_1
              replace hx218_2 := (HB.out.cell (World.block_lt_of_cell? w _ hx218_2)).trans hx218_2
              replace hx218_3 := (HB.out.cell (World.block_lt_of_cell? w _ hx218_3)).trans hx218_3
              replace hx218_4 := (HB.out.cell (World.block_lt_of_cell? w _ hx218_4)).trans hx218_4
              replace hx218_5 := (HB.out.cell (World.block_lt_of_cell? w _ hx218_5)).trans hx218_5
              replace hx218_6 := (HB.out.cell (World.block_lt_of_cell? w _ hx218_6)).trans hx218_6
              replace p218 := eq_true p218
              replace q218 := eq_true q218
              go_wp2_with (first | (go_at_call 24; (with_reducible refine (crucibleref06_line.calls k1 ((rd_T37 l0 x3_1).f0) ((rd_T37 l0 x3_1).f1.f0) ((rd_T37 l0 x3_1).f1.f1) ((rd_T37 l0 x3_1).f1.f2) ((rd_T37 l0 x3_1).f1.f3) ((rd_T37 l0 x3_1).f1.f4) ((rd_T37 l0 x3_1).f2) false _ A5.out).mono ?_); rintro e w8 ⟨rfl, hb⟩; have n0_ := Aside0.mk (below_step (by repeat (first | (with_reducible first | exact HB.out | apply below_alloc | apply pw_below_drewN | apply below_drew1) | exact HB.out)) hb); clear HB; have HB := n0_; clear n0_; (try clear hb); (try clear hb2); (try clear hk); (try clear hi)))
              repeat (go_quiet (first | (go_at_call 24; (with_reducible refine (crucibleref06_line.calls k1 ((rd_T37 l0 x3_1).f0) ((rd_T37 l0 x3_1).f1.f0) ((rd_T37 l0 x3_1).f1.f1) ((rd_T37 l0 x3_1).f1.f2) ((rd_T37 l0 x3_1).f1.f3) ((rd_T37 l0 x3_1).f1.f4) ((rd_T37 l0 x3_1).f2) false _ A5.out).mono ?_); rintro e w8 ⟨rfl, hb⟩; have n0_ := Aside0.mk (below_step (by repeat (first | (with_reducible first | exact HB.out | apply below_alloc | apply pw_below_drewN | apply below_drew1) | exact HB.out)) hb); clear HB; have HB := n0_; clear n0_; (try clear hb); (try clear hb2); (try clear hk); (try clear hi))); try go_wp2_with (first | (go_at_call 24; (with_reducible refine (crucibleref06_line.calls k1 ((rd_T37 l0 x3_1).f0) ((rd_T37 l0 x3_1).f1.f0) ((rd_T37 l0 x3_1).f1.f1) ((rd_T37 l0 x3_1).f1.f2) ((rd_T37 l0 x3_1).f1.f3) ((rd_T37 l0 x3_1).f1.f4) ((rd_T37 l0 x3_1).f2) false _ A5.out).mono ?_); rintro e w8 ⟨rfl, hb⟩; have n0_ := Aside0.mk (below_step (by repeat (first | (with_reducible first | exact HB.out | apply below_alloc | apply pw_below_drewN | apply below_drew1) | exact HB.out)) hb); clear HB; have HB := n0_; clear n0_; (try clear hb); (try clear hb2); (try clear hk); (try clear hi))))
              go_ret
              exact ⟨by first | rfl | (simp [errW_none, errW_some] <;> rfl) | (simp [*, errW_none, errW_some] <;> rfl), by repeat (first | (with_reducible first | exact HB.out | apply below_alloc | apply pw_below_drewN | apply below_drew1) | exact HB.out)⟩
          · rw [if_neg c4] at H
            exact absurd H (by simp)
        · rw [if_neg c3] at H
          have c3b0 : decide (x3_1 < (l0.length : Int)) = false := decide_eq_false c3
          clear c3
          replace H := Option.bind_eq_some_iff.mp H
          obtain ⟨t220, A90, H⟩ := H
          replace H : (crucibleref06_Check.l1 k1 l0 t220 1) = some r := H
          have A9 := Aside0.mk A90
          clear A90
          have H' := Aside0.mk H
          clear H
          go_wp2_with (first | (go_at_call 25; (with_reducible refine (crucibleref06_sorted.calls k1 _ _ l0 0 (l0.length : Int) t220 _ ?side1 ?side2 A9.out).mono ?_); (case side1 => repeat (first | exact (Kd.C_below HR0.out HB.out) | (with_reducible refine Kd.C_alloc ?_ _) | (with_reducible refine Kd.C_drewN ?_ _) | (with_reducible refine Kd.C_drew ?_))); (case side2 => exact HC0.out); rintro e w10 ⟨v221, rfl, ho0, hb⟩; have n0_ := Aside0.mk (Kd.R_lower ho0 (below_size (by repeat (first | (with_reducible first | exact HB.out | apply below_alloc | apply pw_below_drewN | apply below_drew1) | exact HB.out)))); have n1_ := Aside0.mk (below_step (by repeat (first | (with_reducible first | exact HB.out | apply below_alloc | apply pw_below_drewN | apply below_drew1) | exact HB.out)) hb); clear HB; have HO222 := n0_; have HB := n1_; clear n0_ n1_; (try clear hb); (try clear hb2); (try clear hk); (try clear hi); (try clear ho0)))
          repeat (go_quiet (first | (go_at_call 25; (with_reducible refine (crucibleref06_sorted.calls k1 _ _ l0 0 (l0.length : Int) t220 _ ?side1 ?side2 A9.out).mono ?_); (case side1 => repeat (first | exact (Kd.C_below HR0.out HB.out) | (with_reducible refine Kd.C_alloc ?_ _) | (with_reducible refine Kd.C_drewN ?_ _) | (with_reducible refine Kd.C_drew ?_))); (case side2 => exact HC0.out); rintro e w10 ⟨v221, rfl, ho0, hb⟩; have n0_ := Aside0.mk (Kd.R_lower ho0 (below_size (by repeat (first | (with_reducible first | exact HB.out | apply below_alloc | apply pw_below_drewN | apply below_drew1) | exact HB.out)))); have n1_ := Aside0.mk (below_step (by repeat (first | (with_reducible first | exact HB.out | apply below_alloc | apply pw_below_drewN | apply below_drew1) | exact HB.out)) hb); clear HB; have HO222 := n0_; have HB := n1_; clear n0_ n1_; (try clear hb); (try clear hb2); (try clear hk); (try clear hi); (try clear ho0))); try go_wp2_with (first | (go_at_call 25; (with_reducible refine (crucibleref06_sorted.calls k1 _ _ l0 0 (l0.length : Int) t220 _ ?side1 ?side2 A9.out).mono ?_); (case side1 => repeat (first | exact (Kd.C_below HR0.out HB.out) | (with_reducible refine Kd.C_alloc ?_ _) | (with_reducible refine Kd.C_drewN ?_ _) | (with_reducible refine Kd.C_drew ?_))); (case side2 => exact HC0.out); rintro e w10 ⟨v221, rfl, ho0, hb⟩; have n0_ := Aside0.mk (Kd.R_lower ho0 (below_size (by repeat (first | (with_reducible first | exact HB.out | apply below_alloc | apply pw_below_drewN | apply below_drew1) | exact HB.out)))); have n1_ := Aside0.mk (below_step (by repeat (first | (with_reducible first | exact HB.out | apply below_alloc | apply pw_below_drewN | apply below_drew1) | exact HB.out)) hb); clear HB; have HO222 := n0_; have HB := n1_; clear n0_ n1_; (try clear hb); (try clear hb2); (try clear hk); (try clear hi); (try clear ho0))))
          go_loopg [5] k1 (fun kq v5 w' => ∃ (x5_2 : Int), v5 = .int .i64 x5_2 ∧ Aside0 (crucibleref06_Check.l1 kq l0 t220 x5_2 = some r) ∧ Aside0 (kq ≤ k1) ∧ Aside0 (Kd.R (Kd.int .i64) 3 w' w.heap.size (fun _ => True) v221 t220) ∧ Aside0 (Below w.heap.size w w'))
          case atStart => exact ⟨(1), (by first | rfl | (simp; done) | (simp [*]; done)), H', ⟨Nat.le_refl _⟩, ⟨by (with_reducible repeat (first | apply Kd.R_alloc | apply Kd.R_drewN | apply Kd.R_drew)); exact HO222.out⟩, ⟨by repeat (first | (with_reducible first | exact HB.out | apply below_alloc | apply pw_below_drewN | apply below_drew1) | exact HB.out)⟩⟩
          case round =>
            clear H'
            try clear c1
            try clear c2
            try clear c2b0
            try clear c2b1
            try clear p2
            try clear q2
            try clear hx2
            try clear c3
            try clear c3b0
            try clear c4
            try clear c4b0
            try clear c6
            try clear p6
            try clear hx218_0
            try clear hx218_1
            try clear hx218_2
            try clear hx218_3
            try clear hx218_4
            try clear hx218_5
            try clear hx218_6
            try clear p2
            try clear p218
            try clear q218
            obtain ⟨x5_2, rfl, HA, HK2, HO_4, HB⟩ := hrel
            cases gk with
            | zero => exact absurd HA.out (by simp [crucibleref06_Check.l1])
            | succ k2 =>
              have H := HA.out
              clear HA
              simp only [crucibleref06_Check.l1] at H
              by_cases c11 : x5_2 < (t220.length : Int)
              · rw [if_pos c11] at H
                have c11b0 : decide (x5_2 < (t220.length : Int)) = true := decide_eq_true c11
                clear c11
                by_cases c12 : 0 ≤ x5_2
                · rw [if_pos c12] at H
                  have c12b0 : decide (0 ≤ x5_2) = true := decide_eq_true c12
                  clear c12
                  by_cases c13 : 0 ≤ (rd t220 x5_2)
                  · rw [if_pos c13] at H
                    have c13b0 : decide (0 ≤ (rd t220 x5_2)) = true := decide_eq_true c13
                    clear c13
                    by_cases c14 : (rd t220 x5_2) < (l0.length : Int)
                    · rw [if_pos c14] at H
                      have c14b0 : decide ((rd t220 x5_2) < (l0.length : Int)) = true := decide_eq_true c14
                      clear c14
                      obtain ⟨ji15, hji15⟩ : ∃ j_ : Int, (wrap64 (x5_2 - 1)) = j_ := ⟨_, rfl⟩
                      replace H : (if 0 ≤ (ji15) then (if (ji15) < (t220.length : Int) then (if 0 ≤ (rd t220 (ji15)) then (if (rd t220 (ji15)) < (l0.length : Int) then (if ((rd_T37 l0 (rd t220 x5_2)).f0) = ((rd_T37 l0 (rd t220 (ji15))).f0) then (some 60) else (crucibleref06_Check.l1 k2 l0 t220 (wrap64 (x5_2 + 1)))) else (none)) else (none)) else (none)) else (none)) = some r := by first | (rw [hji15] at H; exact H) | (simp only [hji15] at H ⊢; exact H)
                      have hji15w : (IntKind.i64.wrap (x5_2 - 1)) = ji15 := (i64_w _).trans hji15
                      by_cases c16 : 0 ≤ (ji15)
                      · rw [if_pos c16] at H
                        have c16b0 : decide (0 ≤ (ji15)) = true := decide_eq_true c16
                        clear c16
                        by_cases c17 : (ji15) < (t220.length : Int)
                        · rw [if_pos c17] at H
                          have c17b0 : decide ((ji15) < (t220.length : Int)) = true := decide_eq_true c17
                          clear c17
                          by_cases c18 : 0 ≤ (rd t220 (ji15))
                          · rw [if_pos c18] at H
                            have c18b0 : decide (0 ≤ (rd t220 (ji15))) = true := decide_eq_true c18
                            clear c18
                            by_cases c19 : (rd t220 (ji15)) < (l0.length : Int)
                            · rw [if_pos c19] at H
                              have c19b0 : decide ((rd t220 (ji15)) < (l0.length : Int)) = true := decide_eq_true c19
                              clear c19
                              by_cases c20 : ((rd_T37 l0 (rd t220 x5_2)).f0) = ((rd_T37 l0 (rd t220 (ji15))).f0)
                              · rw [if_pos c20] at H
                                have c20b0 : (((rd_T37 l0 (rd t220 x5_2)).f0) == ((rd_T37 l0 (rd t220 (ji15))).f0)) = true := beq_iff_eq.mpr c20
                                have c20b1 : (((rd_T37 l0 (rd t220 x5_2)).f0) != ((rd_T37 l0 (rd t220 (ji15))).f0)) = false := bne_eq_false_iff_eq.mpr c20
                                clear c20
                                obtain rfl := Option.some.inj H
                                obtain ⟨Ao21, co21, eo21⟩ := Kd.R_slice HO_4.out
                                subst eo21
                                have p223 : 0 ≤ (x5_2 : Int) := of_decide_eq_true (by first | (with_reducible assumption) | assumption)
                                have q223 : x5_2 < (t220.length : Int) := of_decide_eq_true (by first | (with_reducible assumption) | assumption)
                                obtain ⟨ad223, e223, hx223_0⟩ := Kd.at_int (Kd.R_reads' HO_4.out).2.2 x5_2 p223 q223
                                cases e223
                                replace p223 := eq_true p223
                                replace q223 := eq_true q223
                                have p224 : 0 ≤ ((rd t220 x5_2) : Int) := of_decide_eq_true (by first | (with_reducible assumption) | assumption)
                                have q224 : (rd t220 x5_2) < (l0.length : Int) := of_decide_eq_true (by first | (with_reducible assumption) | assumption)
                                obtain ⟨ad224, e224, hx224_0, hx224_1, hx224_2, hx224_3, hx224_4, hx224_5, hx224_6⟩ := at_T37 HR0.out (rd t220 x5_2) p224 q224
                                cases e224
                                replace hx224_0 := (HB.out.cell (World.block_lt_of_cell? w _ hx224_0)).trans hx224_0
                                replace hx224_1 := (HB.out.cell (World.block_lt_of_cell? w _ hx224_1)).trans hx224_1
                                replace hx224_2 := (HB.out.cell (World.block_lt_of_cell? w _ hx224_2)).trans hx224_2
                                replace hx224_3 := (HB.out.cell (World.block_lt_of_cell? w _ hx224_3)).trans hx224_3
                                replace hx224_4 := (HB.out.cell (World.block_lt_of_cell? w _ hx224_4)).trans hx224_4
                                replace hx224_5 := (HB.out.cell (World.block_lt_of_cell? w _ hx224_5)).trans hx224_5
                                replace hx224_6 := (HB.out.cell (World.block_lt_of_cell? w _ hx224_6)).trans hx224_6
                                replace p224 := eq_true p224
                                replace q224 := eq_true q224
                                have p225 : 0 ≤ ((ji15) : Int) := of_decide_eq_true (by first | (with_reducible assumption) | assumption)
                                have q225 : (ji15) < (t220.length : Int) := of_decide_eq_true (by first | (with_reducible assumption) | assumption)
                                obtain ⟨ad225, e225, hx225_0⟩ := Kd.at_int (Kd.R_reads' HO_4.out).2.2 (ji15) p225 q225
                                obtain rfl : ad223 = ad225 := (by injection e225)
                                replace p225 := eq_true p225
                                replace q225 := eq_true q225
                                have p226 : 0 ≤ ((rd t220 (ji15)) : Int) := of_decide_eq_true (by first | (with_reducible assumption) | assumption)
                                have q226 : (rd t220 (ji15)) < (l0.length : Int) := of_decide_eq_true (by first | (with_reducible assumption) | assumption)
                                obtain ⟨ad226, e226, hx226_0, hx226_1, hx226_2, hx226_3, hx226_4, hx226_5, hx226_6⟩ := at_T37 HR0.out (rd t220 (ji15)) p226 q226
                                obtain rfl : ad224 = ad226 := (by injection e226)
                                replace hx226_0 := (HB.out.cell (World.block_lt_of_cell? w _ hx226_0)).trans hx226_0
                                replace hx226_1 := (HB.out.cell (World.block_lt_of_cell? w _ hx226_1)).trans hx226_1
                                replace hx226_2 := (HB.out.cell (World.block_lt_of_cell? w _ hx226_2)).trans hx226_2
                                replace hx226_3 := (HB.out.cell (World.block_lt_of_cell? w _ hx226_3)).trans hx226_3
                                replace hx226_4 := (HB.out.cell (World.block_lt_of_cell? w _ hx226_4)).trans hx226_4
                                replace hx226_5 := (HB.out.cell (World.block_lt_of_cell? w _ hx226_5)).trans hx226_5
                                replace hx226_6 := (HB.out.cell (World.block_lt_of_cell? w _ hx226_6)).trans hx226_6
                                replace p226 := eq_true p226
                                replace q226 := eq_true q226
                                go_wp2
                                repeat (go_quiet (fail); try go_wp2)
                                go_ret
                                exact ⟨by first | rfl | (simp [errW_none, errW_some] <;> rfl) | (simp only [← hji15]; first | rfl | (simp [errW_none, errW_some] <;> rfl)) | (simp [*, errW_none, errW_some] <;> rfl), by repeat (first | (with_reducible first | exact HB.out | apply below_alloc | apply pw_below_drewN | apply below_drew1) | exact HB.out)⟩
                              · rw [if_neg c20] at H
                                have c20b0 : (((rd_T37 l0 (rd t220 x5_2)).f0) == ((rd_T37 l0 (rd t220 (ji15))).f0)) = false := beq_eq_false_iff_ne.mpr c20
                                have c20b1 : (((rd_T37 l0 (rd t220 x5_2)).f0) != ((rd_T37 l0 (rd t220 (ji15))).f0)) = true := bne_iff_ne.mpr c20
                                have H' := Aside0.mk H
                                clear H
                                obtain ⟨Ao22, co22, eo22⟩ := Kd.R_slice HO_4.out
                                subst eo22
                                have p223 : 0 ≤ (x5_2 : Int) := of_decide_eq_true (by first | (with_reducible assumption) | assumption)
                                have q223 : x5_2 < (t220.length : Int) := of_decide_eq_true (by first | (with_reducible assumption) | assumption)
                                obtain ⟨ad223, e223, hx223_0⟩ := Kd.at_int (Kd.R_reads' HO_4.out).2.2 x5_2 p223 q223
                                cases e223
                                replace p223 := eq_true p223
                                replace q223 := eq_true q223
                                have p224 : 0 ≤ ((rd t220 x5_2) : Int) := of_decide_eq_true (by first | (with_reducible assumption) | assumption)
                                have q224 : (rd t220 x5_2) < (l0.length : Int) := of_decide_eq_true (by first | (with_reducible assumption) | assumption)
                                obtain ⟨ad224, e224, hx224_0, hx224_1, hx224_2, hx224_3, hx224_4, hx224_5, hx224_6⟩ := at_T37 HR0.out (rd t220 x5_2) p224 q224
                                cases e224
                                replace hx224_0 := (HB.out.cell (World.block_lt_of_cell? w _ hx224_0)).trans hx224_0
                                replace hx224_1 := (HB.out.cell (World.block_lt_of_cell? w _ hx224_1)).trans hx224_1
                                replace hx224_2 := (HB.out.cell (World.block_lt_of_cell? w _ hx224_2)).trans hx224_2
                                replace hx224_3 := (HB.out.cell (World.block_lt_of_cell? w _ hx224_3)).trans hx224_3
                                replace hx224_4 := (HB.out.cell (World.block_lt_of_cell? w _ hx224_4)).trans hx224_4
                                replace hx224_5 := (HB.out.cell (World.block_lt_of_cell? w _ hx224_5)).trans hx224_5
                                replace hx224_6 := (HB.out.cell (World.block_lt_of_cell? w _ hx224_6)).trans hx224_6
                                replace p224 := eq_true p224
                                replace q224 := eq_true q224
                                have p225 : 0 ≤ ((ji15) : Int) := of_decide_eq_true (by first | (with_reducible assumption) | assumption)
                                have q225 : (ji15) < (t220.length : Int) := of_decide_eq_true (by first | (with_reducible assumption) | assumption)
                                obtain ⟨ad225, e225, hx225_0⟩ := Kd.at_int (Kd.R_reads' HO_4.out).2.2 (ji15) p225 q225
                                obtain rfl : ad223 = ad225 := (by injection e225)
                                replace p225 := eq_true p225
                                replace q225 := eq_true q225
                                have p226 : 0 ≤ ((rd t220 (ji15)) : Int) := of_decide_eq_true (by first | (with_reducible assumption) | assumption)
                                have q226 : (rd t220 (ji15)) < (l0.length : Int) := of_decide_eq_true (by first | (with_reducible assumption) | assumption)
                                obtain ⟨ad226, e226, hx226_0, hx226_1, hx226_2, hx226_3, hx226_4, hx226_5, hx226_6⟩ := at_T37 HR0.out (rd t220 (ji15)) p226 q226
                                obtain rfl : ad224 = ad226 := (by injection e226)
                                replace hx226_0 := (HB.out.cell (World.block_lt_of_cell? w _ hx226_0)).trans hx226_0
                                replace hx226_1 := (HB.out.cell (World.block_lt_of_cell? w _ hx226_1)).trans hx226_1
                                replace hx226_2 := (HB.out.cell (World.block_lt_of_cell? w _ hx226_2)).trans hx226_2
                                replace hx226_3 := (HB.out.cell (World.block_lt_of_cell? w _ hx226_3)).trans hx226_3
                                replace hx226_4 := (HB.out.cell (World.block_lt_of_cell? w _ hx226_4)).trans hx226_4
                                replace hx226_5 := (HB.out.cell (World.block_lt_of_cell? w _ hx226_5)).trans hx226_5
                                replace hx226_6 := (HB.out.cell (World.block_lt_of_cell? w _ hx226_6)).trans hx226_6
                                replace p226 := eq_true p226
                                replace q226 := eq_true q226
                                go_wp2
                                repeat (go_quiet (fail); try go_wp2)
                                go_roundg k2
                                case measure => have := HK1.out; have := HK2.out; omega
                                case rel => exact ⟨(wrap64 (x5_2 + 1)), (by first | rfl | (simp; done) | (simp [*]; done)), H', ⟨by have := HK1.out; have := HK2.out; omega⟩, ⟨by (with_reducible repeat (first | apply Kd.R_alloc | apply Kd.R_drewN | apply Kd.R_drew)); exact HO_4.out⟩, ⟨by repeat (first | (with_reducible first | exact HB.out | apply below_alloc | apply pw_below_drewN | apply below_drew1) | exact HB.out)⟩⟩
                            · rw [if_neg c19] at H
                              exact absurd H (by simp)
                          · rw [if_neg c18] at H
                            exact absurd H (by simp)
                        · rw [if_neg c17] at H
                          exact absurd H (by simp)
                      · rw [if_neg c16] at H
                        exact absurd H (by simp)
                    · rw [if_neg c14] at H
                      exact absurd H (by simp)
                  · rw [if_neg c13] at H
                    exact absurd H (by simp)
                · rw [if_neg c12] at H
                  exact absurd H (by simp)
              · rw [if_neg c11] at H
                have c11b0 : decide (x5_2 < (t220.length : Int)) = false := decide_eq_false c11
                clear c11
                have H' := Aside0.mk H
                clear H
                obtain ⟨Ao23, co23, eo23⟩ := Kd.R_slice HO_4.out
                subst eo23
                go_wp2
                repeat (go_quiet (fail); try go_wp2)
                go_loopg [6] k2 (fun kq v6 w' => ∃ (x6_3 : Int), v6 = .int .i64 x6_3 ∧ Aside0 (crucibleref06_Check.l2 kq l0 t220 x6_3 = some r) ∧ Aside0 (kq ≤ k2) ∧ Aside0 (Kd.R (Kd.int .i64) 3 w' w.heap.size (fun _ => True) (.slice Ao23 t220.length co23) t220) ∧ Aside0 (Below w.heap.size w w'))
                case atStart => exact ⟨(0), (by first | rfl | (simp; done) | (simp [*]; done)), H', ⟨Nat.le_refl _⟩, ⟨by (with_reducible repeat (first | apply Kd.R_alloc | apply Kd.R_drewN | apply Kd.R_drew)); exact HO_4.out⟩, ⟨by repeat (first | (with_reducible first | exact HB.out | apply below_alloc | apply pw_below_drewN | apply below_drew1) | exact HB.out)⟩⟩
                case round =>
                  clear H'
                  try clear c1
                  try clear c2
                  try clear c2b0
                  try clear c2b1
                  try clear p2
                  try clear q2
                  try clear hx2
                  try clear c3
                  try clear c3b0
                  try clear c4
                  try clear c4b0
                  try clear c6
                  try clear p6
                  try clear c11
                  try clear c11b0
                  try clear c12
                  try clear c12b0
                  try clear c13
                  try clear c13b0
                  try clear c14
                  try clear c14b0
                  try clear c16
                  try clear c16b0
                  try clear c17
                  try clear c17b0
                  try clear c18
                  try clear c18b0
                  try clear c19
                  try clear c19b0
                  try clear c20
                  try clear c20b0
                  try clear c20b1
                  try clear p21
                  try clear q21
                  try clear hx21
                  try clear p22
                  try clear q22
                  try clear hx22
                  try clear hx218_0
                  try clear hx218_1
                  try clear hx218_2
                  try clear hx218_3
                  try clear hx218_4
                  try clear hx218_5
                  try clear hx218_6
                  try clear hx223_0
                  try clear hx224_0
                  try clear hx224_1
                  try clear hx224_2
                  try clear hx224_3
                  try clear hx224_4
                  try clear hx224_5
                  try clear hx224_6
                  try clear hx225_0
                  try clear hx226_0
                  try clear hx226_1
                  try clear hx226_2
                  try clear hx226_3
                  try clear hx226_4
                  try clear hx226_5
                  try clear hx226_6
                  try clear p2
                  try clear p218
                  try clear p223
                  try clear p224
                  try clear p225
                  try clear p226
                  try clear p6
                  try clear q2
                  try clear q218
                  try clear q223
                  try clear q224
                  try clear q225
                  try clear q226
                  obtain ⟨x6_3, rfl, HA, HK3, HO_4, HB⟩ := hrel
                  cases gk with
                  | zero => exact absurd HA.out (by simp [crucibleref06_Check.l2])
                  | succ k3 =>
                    have H := HA.out
                    clear HA
                    simp only [crucibleref06_Check.l2] at H
                    by_cases c24 : x6_3 < (l0.length : Int)
                    · rw [if_pos c24] at H
                      have c24b0 : decide (x6_3 < (l0.length : Int)) = true := decide_eq_true c24
                      clear c24
                      by_cases c25 : 0 ≤ x6_3
                      · rw [if_pos c25] at H
                        have c25b0 : decide (0 ≤ x6_3) = true := decide_eq_true c25
                        clear c25
                        by_cases c26 : ((rd_T37 l0 x6_3).f2) > 0
                        · rw [if_pos c26] at H
                          have c26b0 : decide (0 < ((rd_T37 l0 x6_3).f2)) = true := decide_eq_true c26
                          clear c26
                          replace H := Option.bind_eq_some_iff.mp H
                          obtain ⟨t229, A270, H⟩ := H
                          replace H : (if t229 < 0 then (some 60) else (crucibleref06_Check.l2 k3 l0 t220 (wrap64 (x6_3 + 1)))) = some r := H
                          have A27 := Aside0.mk A270
                          clear A270
                          by_cases c28 : t229 < 0
                          · rw [if_pos c28] at H
                            have c28b0 : decide (t229 < 0) = true := decide_eq_true c28
                            clear c28
                            obtain rfl := Option.some.inj H
                            have p227 : 0 ≤ (x6_3 : Int) := of_decide_eq_true (by first | (with_reducible assumption) | assumption)
                            have q227 : x6_3 < (l0.length : Int) := of_decide_eq_true (by first | (with_reducible assumption) | assumption)
                            obtain ⟨ad227, e227, hx227_0, hx227_1, hx227_2, hx227_3, hx227_4, hx227_5, hx227_6⟩ := at_T37 HR0.out x6_3 p227 q227
                            cases e227
                            replace hx227_0 := (HB.out.cell (World.block_lt_of_cell? w _ hx227_0)).trans hx227_0
                            replace hx227_1 := (HB.out.cell (World.block_lt_of_cell? w _ hx227_1)).trans hx227_1
                            replace hx227_2 := (HB.out.cell (World.block_lt_of_cell? w _ hx227_2)).trans hx227_2
                            replace hx227_3 := (HB.out.cell (World.block_lt_of_cell? w _ hx227_3)).trans hx227_3
                            replace hx227_4 := (HB.out.cell (World.block_lt_of_cell? w _ hx227_4)).trans hx227_4
                            replace hx227_5 := (HB.out.cell (World.block_lt_of_cell? w _ hx227_5)).trans hx227_5
                            replace hx227_6 := (HB.out.cell (World.block_lt_of_cell? w _ hx227_6)).trans hx227_6
                            replace p227 := eq_true p227
                            replace q227 := eq_true q227
                            have p228 : 0 ≤ (x6_3 : Int) := of_decide_eq_true (by first | (with_reducible assumption) | assumption)
                            have q228 : x6_3 < (l0.length : Int) := of_decide_eq_true (by first | (with_reducible assumption) | assumption)
                            obtain ⟨ad228, e228, hx228_0, hx228_1, hx228_2, hx228_3, hx228_4, hx228_5, hx228_6⟩ := at_T37 HR0.out x6_3 p228 q228
                            obtain rfl : ad227 = ad228 := (by injection e228)
                            replace hx228_0 := (HB.out.cell (World.block_lt_of_cell? w _ hx228_0)).trans hx228_0
                            replace hx228_1 := (HB.out.cell (World.block_lt_of_cell? w _ hx228_1)).trans hx228_1
                            replace hx228_2 := (HB.out.cell (World.block_lt_of_cell? w _ hx228_2)).trans hx228_2
                            replace hx228_3 := (HB.out.cell (World.block_lt_of_cell? w _ hx228_3)).trans hx228_3
                            replace hx228_4 := (HB.out.cell (World.block_lt_of_cell? w _ hx228_4)).trans hx228_4
                            replace hx228_5 := (HB.out.cell (World.block_lt_of_cell? w _ hx228_5)).trans hx228_5
                            replace hx228_6 := (HB.out.cell (World.block_lt_of_cell? w _ hx228_6)).trans hx228_6
                            replace p228 := eq_true p228
                            replace q228 := eq_true q228
                            go_wp2_with (first | (go_at_call 26; (with_reducible refine (crucibleref06_find.calls k3 _ _ l0 _ _ t220 ((rd_T37 l0 x6_3).f2) t229 _ ?side1 ?side2 ?side3 ?side4 A27.out).mono ?_); (case side1 => repeat (first | exact (Kd.C_below HR0.out HB.out) | (with_reducible refine Kd.C_alloc ?_ _) | (with_reducible refine Kd.C_drewN ?_ _) | (with_reducible refine Kd.C_drew ?_))); (case side2 => exact HC0.out); (case side3 => repeat (first | exact (Kd.R_reads' HO_4.out).2.2 | (with_reducible refine Kd.C_alloc ?_ _) | (with_reducible refine Kd.C_drewN ?_ _) | (with_reducible refine Kd.C_drew ?_))); (case side4 => exact (Kd.R_reads' HO_4.out).2.1); rintro e w' ⟨rfl, ⟨nd, rfl⟩⟩; (try first | exact ⟨rfl, _, World.drewN_drewN _ _ _⟩ | exact ⟨rfl, _, Eq.trans (World.drewN_drewN _ _ _) (congrArg (World.drewN _) (Nat.add_assoc _ _ _))⟩)))
                            repeat (go_quiet (first | (go_at_call 26; (with_reducible refine (crucibleref06_find.calls k3 _ _ l0 _ _ t220 ((rd_T37 l0 x6_3).f2) t229 _ ?side1 ?side2 ?side3 ?side4 A27.out).mono ?_); (case side1 => repeat (first | exact (Kd.C_below HR0.out HB.out) | (with_reducible refine Kd.C_alloc ?_ _) | (with_reducible refine Kd.C_drewN ?_ _) | (with_reducible refine Kd.C_drew ?_))); (case side2 => exact HC0.out); (case side3 => repeat (first | exact (Kd.R_reads' HO_4.out).2.2 | (with_reducible refine Kd.C_alloc ?_ _) | (with_reducible refine Kd.C_drewN ?_ _) | (with_reducible refine Kd.C_drew ?_))); (case side4 => exact (Kd.R_reads' HO_4.out).2.1); rintro e w' ⟨rfl, ⟨nd, rfl⟩⟩; (try first | exact ⟨rfl, _, World.drewN_drewN _ _ _⟩ | exact ⟨rfl, _, Eq.trans (World.drewN_drewN _ _ _) (congrArg (World.drewN _) (Nat.add_assoc _ _ _))⟩))); try go_wp2_with (first | (go_at_call 26; (with_reducible refine (crucibleref06_find.calls k3 _ _ l0 _ _ t220 ((rd_T37 l0 x6_3).f2) t229 _ ?side1 ?side2 ?side3 ?side4 A27.out).mono ?_); (case side1 => repeat (first | exact (Kd.C_below HR0.out HB.out) | (with_reducible refine Kd.C_alloc ?_ _) | (with_reducible refine Kd.C_drewN ?_ _) | (with_reducible refine Kd.C_drew ?_))); (case side2 => exact HC0.out); (case side3 => repeat (first | exact (Kd.R_reads' HO_4.out).2.2 | (with_reducible refine Kd.C_alloc ?_ _) | (with_reducible refine Kd.C_drewN ?_ _) | (with_reducible refine Kd.C_drew ?_))); (case side4 => exact (Kd.R_reads' HO_4.out).2.1); rintro e w' ⟨rfl, ⟨nd, rfl⟩⟩; (try first | exact ⟨rfl, _, World.drewN_drewN _ _ _⟩ | exact ⟨rfl, _, Eq.trans (World.drewN_drewN _ _ _) (congrArg (World.drewN _) (Nat.add_assoc _ _ _))⟩))))
                            go_ret
                            exact ⟨by first | rfl | (simp [errW_none, errW_some] <;> rfl) | (simp [*, errW_none, errW_some] <;> rfl), by repeat (first | (with_reducible first | exact HB.out | apply below_alloc | apply pw_below_drewN | apply below_drew1) | exact HB.out)⟩
                          · rw [if_neg c28] at H
                            have c28b0 : decide (t229 < 0) = false := decide_eq_false c28
                            clear c28
                            have H' := Aside0.mk H
                            clear H
                            have p227 : 0 ≤ (x6_3 : Int) := of_decide_eq_true (by first | (with_reducible assumption) | assumption)
                            have q227 : x6_3 < (l0.length : Int) := of_decide_eq_true (by first | (with_reducible assumption) | assumption)
                            obtain ⟨ad227, e227, hx227_0, hx227_1, hx227_2, hx227_3, hx227_4, hx227_5, hx227_6⟩ := at_T37 HR0.out x6_3 p227 q227
                            cases e227
                            replace hx227_0 := (HB.out.cell (World.block_lt_of_cell? w _ hx227_0)).trans hx227_0
                            replace hx227_1 := (HB.out.cell (World.block_lt_of_cell? w _ hx227_1)).trans hx227_1
                            replace hx227_2 := (HB.out.cell (World.block_lt_of_cell? w _ hx227_2)).trans hx227_2
                            replace hx227_3 := (HB.out.cell (World.block_lt_of_cell? w _ hx227_3)).trans hx227_3
                            replace hx227_4 := (HB.out.cell (World.block_lt_of_cell? w _ hx227_4)).trans hx227_4
                            replace hx227_5 := (HB.out.cell (World.block_lt_of_cell? w _ hx227_5)).trans hx227_5
                            replace hx227_6 := (HB.out.cell (World.block_lt_of_cell? w _ hx227_6)).trans hx227_6
                            replace p227 := eq_true p227
                            replace q227 := eq_true q227
                            have p228 : 0 ≤ (x6_3 : Int) := of_decide_eq_true (by first | (with_reducible assumption) | assumption)
                            have q228 : x6_3 < (l0.length : Int) := of_decide_eq_true (by first | (with_reducible assumption) | assumption)
                            obtain ⟨ad228, e228, hx228_0, hx228_1, hx228_2, hx228_3, hx228_4, hx228_5, hx228_6⟩ := at_T37 HR0.out x6_3 p228 q228
                            obtain rfl : ad227 = ad228 := (by injection e228)
                            replace hx228_0 := (HB.out.cell (World.block_lt_of_cell? w _ hx228_0)).trans hx228_0
                            replace hx228_1 := (HB.out.cell (World.block_lt_of_cell? w _ hx228_1)).trans hx228_1
                            replace hx228_2 := (HB.out.cell (World.block_lt_of_cell? w _ hx228_2)).trans hx228_2
                            replace hx228_3 := (HB.out.cell (World.block_lt_of_cell? w _ hx228_3)).trans hx228_3
                            replace hx228_4 := (HB.out.cell (World.block_lt_of_cell? w _ hx228_4)).trans hx228_4
                            replace hx228_5 := (HB.out.cell (World.block_lt_of_cell? w _ hx228_5)).trans hx228_5
                            replace hx228_6 := (HB.out.cell (World.block_lt_of_cell? w _ hx228_6)).trans hx228_6
                            replace p228 := eq_true p228
                            replace q228 := eq_true q228
                            go_wp2_with (first | (go_at_call 26; (with_reducible refine (crucibleref06_find.calls k3 _ _ l0 _ _ t220 ((rd_T37 l0 x6_3).f2) t229 _ ?side1 ?side2 ?side3 ?side4 A27.out).mono ?_); (case side1 => repeat (first | exact (Kd.C_below HR0.out HB.out) | (with_reducible refine Kd.C_alloc ?_ _) | (with_reducible refine Kd.C_drewN ?_ _) | (with_reducible refine Kd.C_drew ?_))); (case side2 => exact HC0.out); (case side3 => repeat (first | exact (Kd.R_reads' HO_4.out).2.2 | (with_reducible refine Kd.C_alloc ?_ _) | (with_reducible refine Kd.C_drewN ?_ _) | (with_reducible refine Kd.C_drew ?_))); (case side4 => exact (Kd.R_reads' HO_4.out).2.1); rintro e w' ⟨rfl, ⟨nd, rfl⟩⟩; (try first | exact ⟨rfl, _, World.drewN_drewN _ _ _⟩ | exact ⟨rfl, _, Eq.trans (World.drewN_drewN _ _ _) (congrArg (World.drewN _) (Nat.add_assoc _ _ _))⟩)))
                            repeat (go_quiet (first | (go_at_call 26; (with_reducible refine (crucibleref06_find.calls k3 _ _ l0 _ _ t220 ((rd_T37 l0 x6_3).f2) t229 _ ?side1 ?side2 ?side3 ?side4 A27.out).mono ?_); (case side1 => repeat (first | exact (Kd.C_below HR0.out HB.out) | (with_reducible refine Kd.C_alloc ?_ _) | (with_reducible refine Kd.C_drewN ?_ _) | (with_reducible refine Kd.C_drew ?_))); (case side2 => exact HC0.out); (case side3 => repeat (first | exact (Kd.R_reads' HO_4.out).2.2 | (with_reducible refine Kd.C_alloc ?_ _) | (with_reducible refine Kd.C_drewN ?_ _) | (with_reducible refine Kd.C_drew ?_))); (case side4 => exact (Kd.R_reads' HO_4.out).2.1); rintro e w' ⟨rfl, ⟨nd, rfl⟩⟩; (try first | exact ⟨rfl, _, World.drewN_drewN _ _ _⟩ | exact ⟨rfl, _, Eq.trans (World.drewN_drewN _ _ _) (congrArg (World.drewN _) (Nat.add_assoc _ _ _))⟩))); try go_wp2_with (first | (go_at_call 26; (with_reducible refine (crucibleref06_find.calls k3 _ _ l0 _ _ t220 ((rd_T37 l0 x6_3).f2) t229 _ ?side1 ?side2 ?side3 ?side4 A27.out).mono ?_); (case side1 => repeat (first | exact (Kd.C_below HR0.out HB.out) | (with_reducible refine Kd.C_alloc ?_ _) | (with_reducible refine Kd.C_drewN ?_ _) | (with_reducible refine Kd.C_drew ?_))); (case side2 => exact HC0.out); (case side3 => repeat (first | exact (Kd.R_reads' HO_4.out).2.2 | (with_reducible refine Kd.C_alloc ?_ _) | (with_reducible refine Kd.C_drewN ?_ _) | (with_reducible refine Kd.C_drew ?_))); (case side4 => exact (Kd.R_reads' HO_4.out).2.1); rintro e w' ⟨rfl, ⟨nd, rfl⟩⟩; (try first | exact ⟨rfl, _, World.drewN_drewN _ _ _⟩ | exact ⟨rfl, _, Eq.trans (World.drewN_drewN _ _ _) (congrArg (World.drewN _) (Nat.add_assoc _ _ _))⟩))))
                            go_roundg k3
                            case measure => have := HK1.out; have := HK2.out; have := HK3.out; omega
                            case rel => exact ⟨(wrap64 (x6_3 + 1)), (by first | rfl | (simp; done) | (simp [*]; done)), H', ⟨by have := HK1.out; have := HK2.out; have := HK3.out; omega⟩, ⟨by (with_reducible repeat (first | apply Kd.R_alloc | apply Kd.R_drewN | apply Kd.R_drew)); exact HO_4.out⟩, ⟨by repeat (first | (with_reducible first | exact HB.out | apply below_alloc | apply pw_below_drewN | apply below_drew1) | exact HB.out)⟩⟩
                        · rw [if_neg c26] at H
                          have c26b0 : decide (0 < ((rd_T37 l0 x6_3).f2)) = false := decide_eq_false c26
                          clear c26
                          have H' := Aside0.mk H
                          clear H
                          have p227 : 0 ≤ (x6_3 : Int) := of_decide_eq_true (by first | (with_reducible assumption) | assumption)
                          have q227 : x6_3 < (l0.length : Int) := of_decide_eq_true (by first | (with_reducible assumption) | assumption)
                          obtain ⟨ad227, e227, hx227_0, hx227_1, hx227_2, hx227_3, hx227_4, hx227_5, hx227_6⟩ := at_T37 HR0.out x6_3 p227 q227
                          cases e227
                          replace hx227_0 := (HB.out.cell (World.block_lt_of_cell? w _ hx227_0)).trans hx227_0
                          replace hx227_1 := (HB.out.cell (World.block_lt_of_cell? w _ hx227_1)).trans hx227_1
                          replace hx227_2 := (HB.out.cell (World.block_lt_of_cell? w _ hx227_2)).trans hx227_2
                          replace hx227_3 := (HB.out.cell (World.block_lt_of_cell? w _ hx227_3)).trans hx227_3
                          replace hx227_4 := (HB.out.cell (World.block_lt_of_cell? w _ hx227_4)).trans hx227_4
                          replace hx227_5 := (HB.out.cell (World.block_lt_of_cell? w _ hx227_5)).trans hx227_5
                          replace hx227_6 := (HB.out.cell (World.block_lt_of_cell? w _ hx227_6)).trans hx227_6
                          replace p227 := eq_true p227
                          replace q227 := eq_true q227
                          go_wp2
                          repeat (go_quiet (fail); try go_wp2)
                          go_roundg k3
                          case measure => have := HK1.out; have := HK2.out; have := HK3.out; omega
                          case rel => exact ⟨(wrap64 (x6_3 + 1)), (by first | rfl | (simp; done) | (simp [*]; done)), H', ⟨by have := HK1.out; have := HK2.out; have := HK3.out; omega⟩, ⟨by (with_reducible repeat (first | apply Kd.R_alloc | apply Kd.R_drewN | apply Kd.R_drew)); exact HO_4.out⟩, ⟨by repeat (first | (with_reducible first | exact HB.out | apply below_alloc | apply pw_below_drewN | apply below_drew1) | exact HB.out)⟩⟩
                      · rw [if_neg c25] at H
                        exact absurd H (by simp)
                    · rw [if_neg c24] at H
                      have c24b0 : decide (x6_3 < (l0.length : Int)) = false := decide_eq_false c24
                      clear c24
                      obtain rfl := Option.some.inj H
                      go_wp2
                      repeat (go_quiet (fail); try go_wp2)
                      go_ret
                      exact ⟨by first | rfl | (simp [errW_none, errW_some] <;> rfl) | (simp [*, errW_none, errW_some] <;> rfl), by repeat (first | (with_reducible first | exact HB.out | apply below_alloc | apply pw_below_drewN | apply below_drew1) | exact HB.out)⟩
def crucibleref06_away.f (l0_0 : List Int) (l0_1 : List Bool) (l0_2 : List Int) (a1 : Int) (a2 : Int) : Option (Int) := if 0 ≤ a1 then (if a1 < (l0_0.length : Int) then (if 0 ≤ (rd l0_0 a1) then (if (rd l0_0 a1) < (l0_2.length : Int) then (some (wrap64 ((rd l0_2 (rd l0_0 a1)) - a2))) else (none)) else (none)) else (none)) else (none)
set_option maxHeartbeats 8000000 in
set_option maxRecDepth 100000 in
theorem crucibleref06_away.calls (A0_0 : Option Addr) (c0_0 : Nat) (l0_0 : List Int) (A0_1 : Option Addr) (c0_1 : Nat) (l0_1 : List Bool) (A0_2 : Option Addr) (c0_2 : Nat) (l0_2 : List Int) (a1 : Int) (a2 : Int) (r : Int) (w : World) (hr0_0 : Kd.C (Kd.int .i64) w A0_0 l0_0.length l0_0) (hc0_0 : l0_0.length ≤ c0_0) (hr0_1 : Kd.C Kd.bool w A0_1 l0_1.length l0_1) (hc0_1 : l0_1.length ≤ c0_1) (hr0_2 : Kd.C (Kd.int .i64) w A0_2 l0_2.length l0_2) (hc0_2 : l0_2.length ≤ c0_2) (h : crucibleref06_away.f l0_0 l0_1 l0_2 a1 a2 = some r) :
    Calls Try.prog 22 #[.agg #[.slice A0_0 l0_0.length c0_0, .slice A0_1 l0_1.length c0_1, .slice A0_2 l0_2.length c0_2], .int .i64 a1, .int .i64 a2] w fun e w' => e = .returned (.int .i64 r) ∧ Below w.heap.size w w' := by
  have hu59 := Try.underlying59
  have HR0_0 := Aside0.mk hr0_0
  have HC0_0 := Aside0.mk hc0_0
  clear hr0_0 hc0_0
  have HR0_1 := Aside0.mk hr0_1
  have HC0_1 := Aside0.mk hc0_1
  clear hr0_1 hc0_1
  have HR0_2 := Aside0.mk hr0_2
  have HC0_2 := Aside0.mk hc0_2
  clear hr0_2 hc0_2
  have HB := Aside0.mk (Below.refl w.heap.size w)
  have H : (if 0 ≤ a1 then (if a1 < (l0_0.length : Int) then (if 0 ≤ (rd l0_0 a1) then (if (rd l0_0 a1) < (l0_2.length : Int) then (some (wrap64 ((rd l0_2 (rd l0_0 a1)) - a2))) else (none)) else (none)) else (none)) else (none)) = some r := h
  clear h
  by_cases c4 : 0 ≤ a1
  · rw [if_pos c4] at H
    have c4b0 : decide (0 ≤ a1) = true := decide_eq_true c4
    clear c4
    by_cases c5 : a1 < (l0_0.length : Int)
    · rw [if_pos c5] at H
      have c5b0 : decide (a1 < (l0_0.length : Int)) = true := decide_eq_true c5
      clear c5
      by_cases c6 : 0 ≤ (rd l0_0 a1)
      · rw [if_pos c6] at H
        have c6b0 : decide (0 ≤ (rd l0_0 a1)) = true := decide_eq_true c6
        clear c6
        by_cases c7 : (rd l0_0 a1) < (l0_2.length : Int)
        · rw [if_pos c7] at H
          have c7b0 : decide ((rd l0_0 a1) < (l0_2.length : Int)) = true := decide_eq_true c7
          clear c7
          obtain rfl := Option.some.inj H
          go_enter Try.func22, Try.ntmps22
          go_wp2_with (first | ((with_reducible refine gate_dst (N := 3) rfl ?_); refine box_event ?hg (N := 3) ?hd (cs := #[.slice A0_0 l0_0.length c0_0, .slice A0_1 l0_1.length c0_1, .slice A0_2 l0_2.length c0_2]) (t := 59) ?hr ?_; (case hd => rfl); (case hg => rfl); (case hr => first | (go_simp; done) | (go_simp; rfl)); intro gb230 hg w8 hbox hb; have n0_ := Aside0.mk (below_step (by repeat (first | (with_reducible first | exact HB.out | apply below_alloc | apply pw_below_drewN | apply below_drew1) | exact HB.out)) hb); have n1_ := Aside0.mk (hbox); have n2_ := Aside0.mk ((by rw [hg]; exact (below_size (by repeat (first | (with_reducible first | exact HB.out | apply below_alloc | apply pw_below_drewN | apply below_drew1) | exact HB.out))) : w.heap.size ≤ gb230)); have n3_ := Aside0.mk ((by rw [hg]; exact (below_size (by repeat (first | (with_reducible first | exact HB.out | apply below_alloc | apply pw_below_drewN | apply below_drew1) | exact HB.out))) : w.heap.size ≤ gb230)); clear HB; have HB := n0_; have BK230 := n1_; have GW230 := n2_; have GE230 := n3_; clear n0_ n1_ n2_ n3_; clear hb hbox hg; have hcz9_0 : w8.cell? ⟨gb230, 0, none⟩ = some (.slice A0_0 l0_0.length c0_0) := (blk_cell BK230.out 0).trans rfl; have hcz9_1 : w8.cell? ⟨gb230, 1, none⟩ = some (.slice A0_1 l0_1.length c0_1) := (blk_cell BK230.out 1).trans rfl; have hcz9_2 : w8.cell? ⟨gb230, 2, none⟩ = some (.slice A0_2 l0_2.length c0_2) := (blk_cell BK230.out 2).trans rfl; have hfz9_0 := blk_frozen BK230.out 0; have hfz9_1 := blk_frozen BK230.out 1; have hfz9_2 := blk_frozen BK230.out 2; have p231 : 0 ≤ (a1 : Int) := of_decide_eq_true (by first | (with_reducible assumption) | assumption); have q231 : a1 < (l0_0.length : Int) := of_decide_eq_true (by first | (with_reducible assumption) | assumption); obtain ⟨ad231, e231, hx231_0⟩ := Kd.at_int HR0_0.out a1 p231 q231; cases e231; replace hx231_0 := (HB.out.cell (World.block_lt_of_cell? w _ hx231_0)).trans hx231_0; replace p231 := eq_true p231; replace q231 := eq_true q231; have p232 : 0 ≤ ((rd l0_0 a1) : Int) := of_decide_eq_true (by first | (with_reducible assumption) | assumption); have q232 : (rd l0_0 a1) < (l0_2.length : Int) := of_decide_eq_true (by first | (with_reducible assumption) | assumption); obtain ⟨ad232, e232, hx232_0⟩ := Kd.at_int HR0_2.out (rd l0_0 a1) p232 q232; cases e232; replace hx232_0 := (HB.out.cell (World.block_lt_of_cell? w _ hx232_0)).trans hx232_0; replace p232 := eq_true p232; replace q232 := eq_true q232))
          repeat (go_quiet (first | ((with_reducible refine gate_dst (N := 3) rfl ?_); refine box_event ?hg (N := 3) ?hd (cs := #[.slice A0_0 l0_0.length c0_0, .slice A0_1 l0_1.length c0_1, .slice A0_2 l0_2.length c0_2]) (t := 59) ?hr ?_; (case hd => rfl); (case hg => rfl); (case hr => first | (go_simp; done) | (go_simp; rfl)); intro gb230 hg w8 hbox hb; have n0_ := Aside0.mk (below_step (by repeat (first | (with_reducible first | exact HB.out | apply below_alloc | apply pw_below_drewN | apply below_drew1) | exact HB.out)) hb); have n1_ := Aside0.mk (hbox); have n2_ := Aside0.mk ((by rw [hg]; exact (below_size (by repeat (first | (with_reducible first | exact HB.out | apply below_alloc | apply pw_below_drewN | apply below_drew1) | exact HB.out))) : w.heap.size ≤ gb230)); have n3_ := Aside0.mk ((by rw [hg]; exact (below_size (by repeat (first | (with_reducible first | exact HB.out | apply below_alloc | apply pw_below_drewN | apply below_drew1) | exact HB.out))) : w.heap.size ≤ gb230)); clear HB; have HB := n0_; have BK230 := n1_; have GW230 := n2_; have GE230 := n3_; clear n0_ n1_ n2_ n3_; clear hb hbox hg; have hcz9_0 : w8.cell? ⟨gb230, 0, none⟩ = some (.slice A0_0 l0_0.length c0_0) := (blk_cell BK230.out 0).trans rfl; have hcz9_1 : w8.cell? ⟨gb230, 1, none⟩ = some (.slice A0_1 l0_1.length c0_1) := (blk_cell BK230.out 1).trans rfl; have hcz9_2 : w8.cell? ⟨gb230, 2, none⟩ = some (.slice A0_2 l0_2.length c0_2) := (blk_cell BK230.out 2).trans rfl; have hfz9_0 := blk_frozen BK230.out 0; have hfz9_1 := blk_frozen BK230.out 1; have hfz9_2 := blk_frozen BK230.out 2; have p231 : 0 ≤ (a1 : Int) := of_decide_eq_true (by first | (with_reducible assumption) | assumption); have q231 : a1 < (l0_0.length : Int) := of_decide_eq_true (by first | (with_reducible assumption) | assumption); obtain ⟨ad231, e231, hx231_0⟩ := Kd.at_int HR0_0.out a1 p231 q231; cases e231; replace hx231_0 := (HB.out.cell (World.block_lt_of_cell? w _ hx231_0)).trans hx231_0; replace p231 := eq_true p231; replace q231 := eq_true q231; have p232 : 0 ≤ ((rd l0_0 a1) : Int) := of_decide_eq_true (by first | (with_reducible assumption) | assumption); have q232 : (rd l0_0 a1) < (l0_2.length : Int) := of_decide_eq_true (by first | (with_reducible assumption) | assumption); obtain ⟨ad232, e232, hx232_0⟩ := Kd.at_int HR0_2.out (rd l0_0 a1) p232 q232; cases e232; replace hx232_0 := (HB.out.cell (World.block_lt_of_cell? w _ hx232_0)).trans hx232_0; replace p232 := eq_true p232; replace q232 := eq_true q232)); try go_wp2_with (first | ((with_reducible refine gate_dst (N := 3) rfl ?_); refine box_event ?hg (N := 3) ?hd (cs := #[.slice A0_0 l0_0.length c0_0, .slice A0_1 l0_1.length c0_1, .slice A0_2 l0_2.length c0_2]) (t := 59) ?hr ?_; (case hd => rfl); (case hg => rfl); (case hr => first | (go_simp; done) | (go_simp; rfl)); intro gb230 hg w8 hbox hb; have n0_ := Aside0.mk (below_step (by repeat (first | (with_reducible first | exact HB.out | apply below_alloc | apply pw_below_drewN | apply below_drew1) | exact HB.out)) hb); have n1_ := Aside0.mk (hbox); have n2_ := Aside0.mk ((by rw [hg]; exact (below_size (by repeat (first | (with_reducible first | exact HB.out | apply below_alloc | apply pw_below_drewN | apply below_drew1) | exact HB.out))) : w.heap.size ≤ gb230)); have n3_ := Aside0.mk ((by rw [hg]; exact (below_size (by repeat (first | (with_reducible first | exact HB.out | apply below_alloc | apply pw_below_drewN | apply below_drew1) | exact HB.out))) : w.heap.size ≤ gb230)); clear HB; have HB := n0_; have BK230 := n1_; have GW230 := n2_; have GE230 := n3_; clear n0_ n1_ n2_ n3_; clear hb hbox hg; have hcz9_0 : w8.cell? ⟨gb230, 0, none⟩ = some (.slice A0_0 l0_0.length c0_0) := (blk_cell BK230.out 0).trans rfl; have hcz9_1 : w8.cell? ⟨gb230, 1, none⟩ = some (.slice A0_1 l0_1.length c0_1) := (blk_cell BK230.out 1).trans rfl; have hcz9_2 : w8.cell? ⟨gb230, 2, none⟩ = some (.slice A0_2 l0_2.length c0_2) := (blk_cell BK230.out 2).trans rfl; have hfz9_0 := blk_frozen BK230.out 0; have hfz9_1 := blk_frozen BK230.out 1; have hfz9_2 := blk_frozen BK230.out 2; have p231 : 0 ≤ (a1 : Int) := of_decide_eq_true (by first | (with_reducible assumption) | assumption); have q231 : a1 < (l0_0.length : Int) := of_decide_eq_true (by first | (with_reducible assumption) | assumption); obtain ⟨ad231, e231, hx231_0⟩ := Kd.at_int HR0_0.out a1 p231 q231; cases e231; replace hx231_0 := (HB.out.cell (World.block_lt_of_cell? w _ hx231_0)).trans hx231_0; replace p231 := eq_true p231; replace q231 := eq_true q231; have p232 : 0 ≤ ((rd l0_0 a1) : Int) := of_decide_eq_true (by first | (with_reducible assumption) | assumption); have q232 : (rd l0_0 a1) < (l0_2.length : Int) := of_decide_eq_true (by first | (with_reducible assumption) | assumption); obtain ⟨ad232, e232, hx232_0⟩ := Kd.at_int HR0_2.out (rd l0_0 a1) p232 q232; cases e232; replace hx232_0 := (HB.out.cell (World.block_lt_of_cell? w _ hx232_0)).trans hx232_0; replace p232 := eq_true p232; replace q232 := eq_true q232)))
          go_ret
          exact ⟨by first | rfl | (simp [errW_none, errW_some] <;> rfl) | (simp [*, errW_none, errW_some] <;> rfl), by repeat (first | (with_reducible first | exact HB.out | apply below_alloc | apply pw_below_drewN | apply below_drew1 | refine below_set ?_ GE230.out) | exact HB.out)⟩
        · rw [if_neg c7] at H
          exact absurd H (by simp)
      · rw [if_neg c6] at H
        exact absurd H (by simp)
    · rw [if_neg c5] at H
      exact absurd H (by simp)
  · rw [if_neg c4] at H
    exact absurd H (by simp)
end Go.Proofs.Ytdhmnjoceeolcaa.GF
end
section
namespace Go.Proofs.Ytdhmnjoceeolcaa.Asm
open Go.RowKit Go.Proofs.YtdhmnjoceeolcaaW.PrintWords Go.Proofs.YtdhmnjoceeolcaaW.PrintLast Go.Proofs.YtdhmnjoceeolcaaW.PrintMore Go.Proofs.Ytdhmnjoceeolcaa.GF
set_option linter.unusedVariables false
set_option linter.unusedSimpArgs false
abbrev lab (l : List S37) (x : Int) : Int := (rd_T37 l x).f0
def lle (l : List S37) (x y : Int) : Prop := lab l x ≤ lab l y
theorem merge_some (l : List S37) : ∀ (n : Nat) (A B out : List Int) (k : Nat), A.length + B.length = n → 2 * n + 2 ≤ k → (∀ x ∈ A, 0 ≤ x ∧ x < l.length) → (∀ x ∈ B, 0 ≤ x ∧ x < l.length) → out.length + n ≤ 1000000 →
    ∃ m, crucibleref06_sorted.l0 k l A B out = some (out ++ m) ∧ m.Perm (A ++ B) ∧ (A.Pairwise (lle l) → B.Pairwise (lle l) → m.Pairwise (lle l)) := by
  intro n
  induction n with
  | zero =>
    intro A B out k hn hk hA hB ho
    obtain rfl : A = [] := List.eq_nil_of_length_eq_zero (by omega)
    obtain rfl : B = [] := List.eq_nil_of_length_eq_zero (by omega)
    obtain ⟨k, rfl⟩ : ∃ k', k = k' + 2 := ⟨k - 2, by omega⟩
    refine ⟨[], ?_, List.Perm.refl _, fun _ _ => List.Pairwise.nil⟩
    unfold crucibleref06_sorted.l0 crucibleref06_sorted.j1
    simp
    omega
  | succ n ih =>
    intro A B out k hn hk hA hB ho
    obtain ⟨k, rfl⟩ : ∃ k', k = k' + 2 := ⟨k - 2, by omega⟩
    cases A with
    | nil =>
      refine ⟨B, ?_, List.Perm.refl _, fun _ h => h⟩
      unfold crucibleref06_sorted.l0 crucibleref06_sorted.j1
      simp only [List.length_nil, Nat.add_zero, List.append_nil] at hn ⊢
      rw [if_neg (by omega), if_neg (by decide), if_pos (by omega)]
      simp only [Option.bind_some]
      rw [if_pos (by simp at hn; omega)]
    | cons a A =>
      cases B with
      | nil =>
        refine ⟨a :: A, ?_, by simp, fun h _ => h⟩
        unfold crucibleref06_sorted.l0 crucibleref06_sorted.j1
        simp only [List.length_cons, List.length_nil] at hn ⊢
        rw [if_pos (by omega), if_neg (by simp), if_pos (by omega)]
        simp only [Option.bind_some, List.length_append, List.length_cons]
        rw [if_pos (by omega), List.append_nil]
      | cons b B =>
        have ha := hA a List.mem_cons_self
        have hb := hB b List.mem_cons_self
        simp only [List.length_cons] at hn
        by_cases hc : lab l b < lab l a
        · obtain ⟨m, h1, h2, h3⟩ := ih (a :: A) B (out ++ [b]) k (by simp; omega) (by omega) hA (fun x hx => hB x (List.mem_cons_of_mem _ hx)) (by simp; omega)
          refine ⟨b :: m, ?_, (h2.cons b).trans List.perm_middle.symm, fun p q => ?_⟩
          · unfold crucibleref06_sorted.l0 crucibleref06_sorted.j1
            simp only [List.length_cons]
            have r1 : rd (b :: B) 0 = b := rfl
            have r2 : rd (a :: A) 0 = a := rfl
            rw [if_pos (by omega), if_pos (decide_eq_true (by omega)), r1, r2, if_pos (by omega), if_pos hb.1, if_pos hb.2, if_pos (by omega), if_pos ha.1, if_pos ha.2, if_pos hc, if_pos (by omega), if_pos (by omega)]
            rw [show (b :: B).drop (1 : Int).toNat = B from rfl, h1]
            simp
          · refine List.pairwise_cons.2 ⟨fun x hx => ?_, h3 p (List.pairwise_cons.1 q).2⟩
            rcases List.mem_append.1 (h2.mem_iff.1 hx) with hx | hx
            · rcases List.mem_cons.1 hx with rfl | hx
              · exact Int.le_of_lt hc
              · have := (List.pairwise_cons.1 p).1 x hx
                unfold lle at this ⊢
                omega
            · exact (List.pairwise_cons.1 q).1 x hx
        · obtain ⟨m, h1, h2, h3⟩ := ih A (b :: B) (out ++ [a]) k (by simp; omega) (by omega) (fun x hx => hA x (List.mem_cons_of_mem _ hx)) hB (by simp; omega)
          refine ⟨a :: m, ?_, h2.cons a, fun p q => ?_⟩
          · unfold crucibleref06_sorted.l0 crucibleref06_sorted.j1
            simp only [List.length_cons]
            have r1 : rd (b :: B) 0 = b := rfl
            have r2 : rd (a :: A) 0 = a := rfl
            rw [if_pos (by omega), if_pos (decide_eq_true (by omega)), r1, r2, if_pos (by omega), if_pos hb.1, if_pos hb.2, if_pos (by omega), if_pos ha.1, if_pos ha.2, if_neg hc, if_pos (by omega), if_pos (by omega)]
            rw [show (a :: A).drop (1 : Int).toNat = A from rfl, h1]
            simp
          · refine List.pairwise_cons.2 ⟨fun x hx => ?_, h3 (List.pairwise_cons.1 p).2 q⟩
            rcases List.mem_append.1 (h2.mem_iff.1 hx) with hx | hx
            · exact (List.pairwise_cons.1 p).1 x hx
            · rcases List.mem_cons.1 hx with rfl | hx
              · unfold lle; omega
              · have := (List.pairwise_cons.1 q).1 x hx
                unfold lle at this ⊢
                omega
/-- A sorted row of the lines with labels. -/
structure Srt (l : List S37) (from_ to_ : Int) (s : List Int) : Prop where
  mem : ∀ x, x ∈ s ↔ from_ ≤ x ∧ x < to_ ∧ 0 < lab l x
  nd : s.Nodup
  pw : s.Pairwise (lle l)
  len : (s.length : Int) ≤ to_ - from_
theorem sorted_some (l : List S37) (hl : l.length ≤ 262144) : ∀ (d : Nat) (a b : Int) (k : Nat), 0 ≤ a → a ≤ b → b ≤ l.length → (b - a).toNat ≤ d → 4 * d + 4 ≤ k → ∃ s, crucibleref06_sorted.f k l a b = some s ∧ Srt l a b s := by
  intro d
  induction d using Nat.strongRecOn with
  | ind d ih =>
    intro a b k h0 hab hb hd hk
    obtain ⟨k, rfl⟩ : ∃ k', k = k' + 1 := ⟨k - 1, by omega⟩
    have hw : wrap64 (b - a) = b - a := by unfold wrap64; omega
    unfold crucibleref06_sorted.f
    rw [hw]
    by_cases c1 : b - a < 1
    · refine ⟨[], ?_, ⟨fun x => ⟨(fun h => by cases h), (fun h => by omega)⟩, List.nodup_nil, List.Pairwise.nil, by simp; omega⟩⟩
      rw [if_pos c1]
    · rw [if_neg c1]
      by_cases c2 : b - a = 1
      · rw [if_pos c2, if_pos h0, if_pos (by omega)]
        by_cases c3 : lab l a > 0
        · refine ⟨[a], by rw [if_pos c3], ⟨fun x => ⟨fun h => ?_, fun h => ?_⟩, by simp, by simp, by simp; omega⟩⟩
          · rw [List.mem_singleton.1 h]; exact ⟨by omega, by omega, c3⟩
          · exact List.mem_singleton.2 (by omega)
        · refine ⟨[], by rw [if_neg c3], ⟨fun x => ⟨(fun h => by cases h), (fun h => ?_)⟩, List.nodup_nil, List.Pairwise.nil, by simp; omega⟩⟩
          have : x = a := by omega
          subst this
          exact absurd h.2.2 c3
      · rw [if_neg c2]
        have hdv : Int.tdiv (b - a) 2 = (b - a) / 2 := Int.tdiv_eq_ediv_of_nonneg (by omega)
        have hw2 : wrap64 (Int.tdiv (b - a) 2) = (b - a) / 2 := by rw [hdv]; unfold wrap64; omega
        have hw3 : wrap64 (a + (b - a) / 2) = a + (b - a) / 2 := by unfold wrap64; omega
        rw [hw2, hw3]
        obtain ⟨m, hm⟩ : ∃ m, m = a + (b - a) / 2 := ⟨_, rfl⟩
        rw [← hm]
        obtain ⟨s1, e1, S1⟩ := ih (m - a).toNat (by omega) a m k h0 (by omega) (by omega) (Nat.le_refl _) (by omega)
        obtain ⟨s2, e2, S2⟩ := ih (b - m).toNat (by omega) m b k (by omega) (by omega) hb (Nat.le_refl _) (by omega)
        rw [e1, e2]
        simp only [Option.bind_some]
        have l1 := S1.len
        have l2 := S2.len
        obtain ⟨t, e3, p3, w3⟩ := merge_some l (s1.length + s2.length) s1 s2 [] k rfl (by omega) (fun x hx => by have := (S1.mem x).1 hx; omega) (fun x hx => by have := (S2.mem x).1 hx; omega) (by simp; omega)
        refine ⟨t, by rw [e3]; rfl, ⟨fun x => ?_, ?_, w3 S1.pw S2.pw, ?_⟩⟩
        · rw [p3.mem_iff, List.mem_append, S1.mem, S2.mem]
          constructor
          · rintro (h | h) <;> exact ⟨by omega, by omega, h.2.2⟩
          · intro h
            by_cases hx : x < m
            · exact .inl ⟨by omega, hx, h.2.2⟩
            · exact .inr ⟨by omega, by omega, h.2.2⟩
        · rw [p3.nodup_iff, List.nodup_append]
          refine ⟨S1.nd, S2.nd, fun x hx y hy => ?_⟩
          have h1 := (S1.mem x).1 hx
          have h2 := (S2.mem y).1 hy
          omega
        · rw [p3.length_eq, List.length_append]; omega
theorem rd_n (s : List Int) (j : Nat) : rd s (j : Int) = s.getD j 0 := by unfold rd; rw [Int.toNat_natCast]
theorem find_l0 (l : List S37) (s : List Int) (v : Int) (hs : ∀ x ∈ s, 0 ≤ x ∧ x < l.length) (hl : s.length ≤ 1000000) (pw : s.Pairwise (lle l)) : ∀ (d f t k : Nat), t = f + d → t ≤ s.length → d + 1 ≤ k → (∀ j, j < f → lab l (s.getD j 0) < v) → (∀ j, t ≤ j → j < s.length → v ≤ lab l (s.getD j 0)) →
    ∃ q : Nat, q ≤ s.length ∧ (∀ j, j < q → lab l (s.getD j 0) < v) ∧ (∀ j, q ≤ j → j < s.length → v ≤ lab l (s.getD j 0)) ∧ crucibleref06_find.l0 k l s v (f : Int) (t : Int) = (if q < s.length ∧ lab l (s.getD q 0) = v then some (s.getD q 0) else some (-1)) := by
  intro d
  induction d using Nat.strongRecOn with
  | ind d ih =>
    intro f t k ht hts hk lo hi
    obtain ⟨k, rfl⟩ : ∃ k', k = k' + 1 := ⟨k - 1, by omega⟩
    have mem : ∀ j, j < s.length → s.getD j 0 ∈ s := fun j h => getD_mem s 0 j h
    by_cases hd : d = 0
    · subst hd
      obtain rfl : t = f := by omega
      refine ⟨t, hts, lo, hi, ?_⟩
      unfold crucibleref06_find.l0
      rw [if_neg (by omega), rd_n]
      by_cases h1 : t < s.length
      · have hr := hs _ (mem t h1)
        rw [if_pos (show (t : Int) < (s.length : Int) by omega), if_pos (show (0 : Int) ≤ (t : Int) by omega), if_pos hr.1, if_pos hr.2]
        by_cases h2 : lab l (s.getD t 0) = v
        · rw [if_pos h2, if_pos (show t < s.length ∧ lab l (s.getD t 0) = v from ⟨h1, h2⟩)]
        · rw [if_neg h2, if_neg (show ¬ (t < s.length ∧ lab l (s.getD t 0) = v) from fun h => h2 h.2)]
      · rw [if_neg (show ¬ (t : Int) < (s.length : Int) by omega), if_neg (show ¬ (t < s.length ∧ lab l (s.getD t 0) = v) from fun h => h1 h.1)]
    · have hw : wrap64 ((f : Int) + wrap64 (Int.tdiv (wrap64 ((t : Int) - f)) 2)) = ((f + d / 2 : Nat) : Int) := by
        have h1 : wrap64 ((t : Int) - f) = (d : Int) := by unfold wrap64; omega
        rw [h1, Int.tdiv_eq_ediv_of_nonneg (by omega)]
        unfold wrap64
        omega
      have hlt : f + d / 2 < s.length := by omega
      have hr := hs _ (mem _ hlt)
      unfold crucibleref06_find.l0
      rw [if_pos (by omega)]
      simp only [hw, rd_n]
      have hsort : ∀ i j, i ≤ j → j < s.length → lab l (s.getD i 0) ≤ lab l (s.getD j 0) := fun i j hij hj => by
        by_cases e : i = j
        · subst e; exact Int.le_refl _
        · have := List.pairwise_iff_getElem.1 pw i j (by omega) hj (by omega)
          rw [List.getD_eq_getElem?_getD, List.getElem?_eq_getElem (by omega), List.getD_eq_getElem?_getD, List.getElem?_eq_getElem hj]
          exact this
      rw [if_pos (by omega), if_pos (by omega), if_pos hr.1, if_pos hr.2]
      by_cases hc : lab l (s.getD (f + d / 2) 0) < v
      · rw [if_pos hc, show wrap64 (((f + d / 2 : Nat) : Int) + 1) = ((f + d / 2 + 1 : Nat) : Int) by unfold wrap64; omega]
        exact ih (d - d / 2 - 1) (by omega) (f + d / 2 + 1) t k (by omega) hts (by omega) (fun j hj => Int.lt_of_le_of_lt (hsort j (f + d / 2) (by omega) hlt) hc) hi
      · rw [if_neg hc]
        exact ih (d / 2) (by omega) f (f + d / 2) k rfl (by omega) (by omega) lo (fun j h1 h2 => Int.le_trans (by omega) (hsort (f + d / 2) j h1 h2))
/-- Which line a label stands in. -/
theorem find_some (l : List S37) (s : List Int) (v : Int) (hs : ∀ x ∈ s, 0 ≤ x ∧ x < l.length) (hl : s.length ≤ 1000000) (pw : s.Pairwise (lle l)) (k : Nat) (hk : s.length + 1 ≤ k) :
    ∃ r, crucibleref06_find.f k l s v = some r ∧ ((∃ x ∈ s, lab l x = v) → r ∈ s ∧ lab l r = v) ∧ ((¬ ∃ x ∈ s, lab l x = v) → r = -1) := by
  obtain ⟨q, hq, lo, hi, e⟩ := find_l0 l s v hs hl pw s.length 0 s.length k (by omega) (Nat.le_refl _) hk (fun j h => by omega) (fun j h1 h2 => by omega)
  unfold crucibleref06_find.f
  have e' : crucibleref06_find.l0 k l s v 0 (s.length : Int) = _ := e
  rw [e']
  have hno : ∀ j, j < s.length → lab l (s.getD j 0) = v → q < s.length ∧ lab l (s.getD q 0) = v := fun j hj hv => by
    have hqj : q ≤ j := by
      by_cases h : q ≤ j
      · exact h
      · have := lo j (by omega); omega
    refine ⟨by omega, ?_⟩
    have h1 := hi q (Nat.le_refl _) (by omega)
    by_cases e : q = j
    · subst e; exact hv
    · have := List.pairwise_iff_getElem.1 pw q j (by omega) hj (by omega)
      have h2 : lab l (s.getD q 0) ≤ lab l (s.getD j 0) := by
        rw [List.getD_eq_getElem?_getD, List.getElem?_eq_getElem (by omega), List.getD_eq_getElem?_getD, List.getElem?_eq_getElem hj]
        exact this
      omega
  by_cases h : q < s.length ∧ lab l (s.getD q 0) = v
  · rw [if_pos h]
    exact ⟨_, rfl, fun _ => ⟨getD_mem s 0 q h.1, h.2⟩, fun h2 => absurd ⟨_, getD_mem s 0 q h.1, h.2⟩ h2⟩
  · rw [if_neg h]
    refine ⟨_, rfl, fun ⟨x, hx, hv⟩ => ?_, fun _ => rfl⟩
    obtain ⟨j, hj, ej⟩ := List.getElem_of_mem hx
    refine absurd (hno j hj ?_) h
    rw [List.getD_eq_getElem?_getD, List.getElem?_eq_getElem hj]
    exact (by rw [← hv, ← ej]; rfl)
end Go.Proofs.Ytdhmnjoceeolcaa.Asm
end
section
namespace Go.Proofs.Ytdhmnjoceeolcaa.Asm
open Go.RowKit Go.Proofs.YtdhmnjoceeolcaaW.PrintWords Go.Proofs.YtdhmnjoceeolcaaW.PrintLast Go.Proofs.YtdhmnjoceeolcaaW.PrintMore Go.Proofs.Ytdhmnjoceeolcaa.GF Go.Proofs.Ytdhmnjoceeolcaa.FactsDec
set_option linter.unusedVariables false
set_option linter.unusedSimpArgs false
theorem regR (r : Int) (h : Bool) : crucibleref02_reg.f r h = some (rg r h) := by
  unfold crucibleref02_reg.f rg
  by_cases c1 : r = 0
  · subst c1; simp
  · rw [if_neg c1]
    have e : (r == 0) = false := beq_eq_false_iff_ne.2 c1
    cases h
    · simp [e]
    · rw [if_pos rfl]
      by_cases c2 : r > 0
      · rw [if_pos c2]; simp; omega
      · rw [if_neg c2]; simp; omega
theorem j0R (k : Nat) (op d a b i bits : Int) (sd sa sb sign is v : Bool) (h : crucibleref02_imm.f op d a b i sd sa sb bits sign is = some v) :
    crucibleref02_May.j0 (k + 1) false op d a b i sd sa sb bits sign is = some (is && (rg d sd && (rg a sa && (rg b sb && v)))) := by
  simp only [crucibleref02_May.j0, regR, h, Option.bind_some]
  cases is <;> cases rg d sd <;> cases rg a sa <;> cases rg b sb <;> simp
theorem mayR {op p bits lo hi : Int} {sd sa sb sign is : Bool} (k : Nat) (d a b i : Int) (h0 : -2147483648 ≤ i) (h1 : i ≤ 2147483647) (h : Cl op p sd sa sb bits sign is lo hi) :
    crucibleref02_May.f (k + 7) op d a b i = some (ok d a b i sd sa sb is lo hi) := by
  have hs := shaped k h
  unfold crucibleref02_May.f
  rw [hs]
  simp only [Option.bind_some]
  by_cases h46 : op = 46
  · have hc : sd = false ∧ sa = false ∧ sb = false ∧ bits = 16 ∧ sign = false ∧ is = true ∧ lo = 1 ∧ hi = 5 := by
      unfold Cl at h
      rcases h with h | h | h | h | h | h | h | h | h | h | h <;> first | (exact ⟨h.2.2.1, h.2.2.2.1, h.2.2.2.2.1, h.2.2.2.2.2.1, h.2.2.2.2.2.2.1, h.2.2.2.2.2.2.2.1, h.2.2.2.2.2.2.2.2.1, h.2.2.2.2.2.2.2.2.2⟩) | (exfalso; omega)
    obtain ⟨rfl, rfl, rfl, rfl, rfl, rfl, rfl, rfl⟩ := hc
    rw [if_pos h46]
    have hi : crucibleref02_imm.f op d a b i false false false 16 false true = some (decide (0 ≤ i) && decide (i ≤ 65535)) := by
      unfold crucibleref02_imm.f
      rw [if_pos ⟨h0, h1⟩, if_neg (by decide), if_neg (by decide), if_pos ⟨rfl, rfl⟩]
    by_cases c1 : i < 1
    · rw [if_pos c1]
      unfold crucibleref02_May.j0 ok
      have : decide (1 ≤ i) = false := decide_eq_false (by omega)
      simp [this]
    · rw [if_neg c1]
      by_cases c2 : i > 5
      · rw [decide_eq_true c2]
        unfold crucibleref02_May.j0 ok
        have : decide (i ≤ 5) = false := decide_eq_false (by omega)
        simp [this]
      · rw [decide_eq_false c2, j0R (k + 6) op d a b i 16 false false false false true _ hi]
        unfold ok
        rw [decide_eq_true (show 0 ≤ i by omega), decide_eq_true (show i ≤ 65535 by omega), decide_eq_true (show 1 ≤ i by omega), decide_eq_true (show i ≤ 5 by omega)]
  · rw [if_neg h46]
    have hi : crucibleref02_imm.f op d a b i sd sa sb bits sign is = some (decide (lo ≤ i) && decide (i ≤ hi)) := by
      unfold crucibleref02_imm.f
      rw [if_pos ⟨h0, h1⟩]
      unfold Cl at h
      rcases h with h | h | h | h | h | h | h | h | h | h | h <;> (obtain ⟨ho, _, rfl, rfl, rfl, rfl, rfl, rfl, rfl, rfl⟩ := h) <;> first | exact absurd ho h46 | simp
    rw [j0R (k + 6) op d a b i bits sd sa sb sign is _ hi]
    unfold ok
    rfl
/-- An instruction's number of 32 bits is one. -/
def imOk (x : S37) : Prop := -2147483648 ≤ x.f1.f4 ∧ x.f1.f4 ≤ 2147483647
theorem lineR (k : Nat) (x : S37) (hx : imOk x) : crucibleref06_line.f (k + 7) x.f0 x.f1.f0 x.f1.f1 x.f1.f2 x.f1.f3 x.f1.f4 x.f2 = some (mayV x) := by
  obtain ⟨p, sd, sa, sb, bits, sign, is, lo, hi, h⟩ := cl x.f1.f0
  have hm := mayR k x.f1.f1 x.f1.f2 x.f1.f3 x.f1.f4 hx.1 hx.2 h
  have hc := check 0 x.f1.f1 x.f1.f2 x.f1.f3 x.f1.f4 h
  have hb : ((if ok x.f1.f1 x.f1.f2 x.f1.f3 x.f1.f4 sd sa sb is lo hi = true then (0 : Int) else 1) == 0) = ok x.f1.f1 x.f1.f2 x.f1.f3 x.f1.f4 sd sa sb is lo hi := by
    cases ok x.f1.f1 x.f1.f2 x.f1.f3 x.f1.f4 sd sa sb is lo hi <;> rfl
  have hs := may_some x
  rw [← hs]
  unfold crucibleref06_line.f asm_may.f asm_branches.f
  rw [hm, show (7 : Nat) = 0 + 7 from rfl, hc]
  simp only [Option.bind_some, hb]
  by_cases c1 : x.f0 = 0
  · rw [if_pos c1, if_pos c1]
    by_cases c2 : x.f2 = 0
    · rw [if_pos c2, if_pos c2]
    · rw [if_neg c2, if_neg c2]
      by_cases c3 : x.f2 < 0
      · have c4 : ¬ x.f2 > 0 := by omega
        rw [if_pos c3]
        simp [c4]
      · have c4 : x.f2 > 0 := by omega
        rw [if_neg c3]
        by_cases c5 : x.f1.f4 = 0
        · rw [if_pos c5]
          by_cases d1 : x.f1.f0 = 39
          · simp [d1, c4, c5]
          · by_cases d2 : x.f1.f0 = 40
            · simp [d2, c4, c5]
            · by_cases d3 : x.f1.f0 = 41
              · simp [d3, c4, c5]
              · by_cases d4 : x.f1.f0 = 42
                · simp [d4, c4, c5]
                · simp [d1, d2, d3, d4, c4, c5]
        · rw [if_neg c5]
          simp [c4, c5]
  · rw [if_neg c1, if_neg c1]
end Go.Proofs.Ytdhmnjoceeolcaa.Asm
end
section
namespace Go.Proofs.Ytdhmnjoceeolcaa.Asm
open Go.RowKit Go.Proofs.YtdhmnjoceeolcaaW.PrintWords Go.Proofs.YtdhmnjoceeolcaaW.PrintLast Go.Proofs.YtdhmnjoceeolcaaW.PrintMore Go.Proofs.Ytdhmnjoceeolcaa.GF
set_option linter.unusedVariables false
set_option linter.unusedSimpArgs false
theorem lab_n (l : List S37) (i : Nat) : lab l (i : Int) = (l.getD i z37).f0 := by unfold lab rd_T37; rw [Int.toNat_natCast]
theorem cnt_pos (l : List S37) (k : Int) : 0 < cnt l k ↔ ∃ i, i < l.length ∧ (l.getD i z37).f0 = k := by
  unfold cnt
  rw [List.countP_pos_iff]
  constructor
  · rintro ⟨x, hx, h⟩
    obtain ⟨i, hi, e⟩ := List.getElem_of_mem hx
    exact ⟨i, hi, by rw [List.getD_eq_getElem?_getD, List.getElem?_eq_getElem hi]; subst e; simpa using h⟩
  · rintro ⟨i, hi, h⟩
    exact ⟨_, getD_mem l z37 i hi, by simpa using h⟩
theorem in_row {l : List S37} {s : List Int} (S : Srt l 0 l.length s) (v : Int) (hv : 0 < v) : (∃ x ∈ s, lab l x = v) ↔ 0 < cnt l v := by
  rw [cnt_pos]
  constructor
  · rintro ⟨x, hx, h⟩
    obtain ⟨h1, h2, h3⟩ := (S.mem x).1 hx
    obtain ⟨i, rfl⟩ := Int.eq_ofNat_of_zero_le h1
    exact ⟨i, by omega, by rw [← lab_n]; exact h⟩
  · rintro ⟨i, hi, h⟩
    refine ⟨(i : Int), (S.mem _).2 ⟨by omega, by omega, ?_⟩, ?_⟩
    · rw [lab_n, h]; exact hv
    · rw [lab_n, h]
theorem chk_l2 (l : List S37) (hl : l.length ≤ 262144) (s : List Int) (S : Srt l 0 l.length s) : ∀ (d i k : Nat), i + d = l.length → d + l.length + 2 ≤ k →
    crucibleref06_Check.l2 k l s (i : Int) = some (if (l.drop i).any (fun x => decide (0 < x.f2) && decide ((cnt l x.f2 : Int) = 0)) = true then 60 else 0) := by
  have hs : ∀ x ∈ s, 0 ≤ x ∧ x < l.length := fun x hx => by have := (S.mem x).1 hx; omega
  have hsl : s.length ≤ l.length := by have := S.len; omega
  intro d
  induction d with
  | zero =>
    intro i k h hk
    obtain rfl : i = l.length := by omega
    obtain ⟨k, rfl⟩ : ∃ k', k = k' + 1 := ⟨k - 1, by omega⟩
    simp only [crucibleref06_Check.l2]
    rw [if_neg (by omega), List.drop_length]
    rfl
  | succ d ih =>
    intro i k h hk
    have hi : i < l.length := by omega
    obtain ⟨k, rfl⟩ : ∃ k', k = k' + 1 := ⟨k - 1, by omega⟩
    have hcons : l.drop i = l.getD i z37 :: l.drop (i + 1) := by rw [List.drop_eq_getElem_cons hi, List.getD_eq_getElem?_getD, List.getElem?_eq_getElem hi]; rfl
    have hw : wrap64 ((i : Int) + 1) = ((i + 1 : Nat) : Int) := by unfold wrap64; omega
    simp only [crucibleref06_Check.l2]
    rw [if_pos (by omega), if_pos (by omega), show rd_T37 l (i : Int) = l.getD i z37 by unfold rd_T37; rw [Int.toNat_natCast], hcons, hw]
    have ihn := ih (i + 1) k (by omega) (by omega)
    generalize l.getD i z37 = x at *
    rw [List.any_cons]
    by_cases c1 : x.f2 > 0
    · obtain ⟨r, e, y, n⟩ := find_some l s x.f2 hs (by omega) S.pw k (by omega)
      rw [if_pos c1, e]
      simp only [Option.bind_some]
      have hin := in_row S x.f2 c1
      by_cases c2 : 0 < cnt l x.f2
      · have h1 := hs _ (y (hin.2 c2)).1
        have e1 : decide ((cnt l x.f2 : Int) = 0) = false := decide_eq_false (by omega)
        rw [if_neg (by omega), ihn, e1, Bool.and_false, Bool.false_or]
      · have h1 := n (fun h => c2 (hin.1 h))
        have e1 : decide ((cnt l x.f2 : Int) = 0) = true := decide_eq_true (by omega)
        rw [if_pos (by omega), e1, decide_eq_true (show 0 < x.f2 from c1), Bool.and_true, Bool.true_or, if_pos rfl]
    · have e1 : decide (0 < x.f2) = false := decide_eq_false (by omega)
      rw [if_neg c1, ihn, e1, Bool.false_and, Bool.false_or]
theorem cnt_two (k : Int) : ∀ l : List S37, 1 < cnt l k ↔ ∃ p q, p < q ∧ q < l.length ∧ (l.getD p z37).f0 = k ∧ (l.getD q z37).f0 = k
  | [] => by simp [cnt]
  | x :: l => by
    have ih := cnt_two k l
    have hp := cnt_pos l k
    have hc : cnt (x :: l) k = cnt l k + if x.f0 = k then 1 else 0 := by
      unfold cnt
      rw [List.countP_cons]
      by_cases h : x.f0 = k
      · simp [h]
      · simp [h]
    rw [hc]
    constructor
    · intro h
      by_cases hx : x.f0 = k
      · rw [if_pos hx] at h
        obtain ⟨i, hi, e⟩ := hp.1 (by omega)
        exact ⟨0, i + 1, by omega, by simp; omega, hx, e⟩
      · rw [if_neg hx] at h
        obtain ⟨p, q, h1, h2, h3, h4⟩ := ih.1 (by omega)
        exact ⟨p + 1, q + 1, by omega, by simp; omega, h3, h4⟩
    · rintro ⟨p, q, h1, h2, h3, h4⟩
      obtain ⟨q, rfl⟩ : ∃ q', q = q' + 1 := ⟨q - 1, by omega⟩
      have hq : q < l.length := by simpa using h2
      cases p with
      | zero =>
        rw [if_pos (show x.f0 = k from h3)]
        have := hp.2 ⟨q, hq, h4⟩
        omega
      | succ p =>
        have := ih.2 ⟨p, q, by omega, hq, h3, h4⟩
        split <;> omega
theorem chk_l1 (l : List S37) (hl : l.length ≤ 262144) (s : List Int) (S : Srt l 0 l.length s) (R : Int) (hR : ∀ k, 2 * l.length + 2 ≤ k → crucibleref06_Check.l2 k l s 0 = some R) : ∀ (d i k : Nat), 1 ≤ i → s.length ≤ i + d → d + 2 * l.length + 3 ≤ k →
    ∃ r, crucibleref06_Check.l1 k l s (i : Int) = some r ∧ ((∃ j, i ≤ j ∧ j < s.length ∧ lab l (s.getD j 0) = lab l (s.getD (j - 1) 0)) → r = 60) ∧ ((¬ ∃ j, i ≤ j ∧ j < s.length ∧ lab l (s.getD j 0) = lab l (s.getD (j - 1) 0)) → r = R) := by
  have hs : ∀ x ∈ s, 0 ≤ x ∧ x < l.length := fun x hx => by have := (S.mem x).1 hx; omega
  have hsl : s.length ≤ l.length := by have := S.len; omega
  intro d
  induction d with
  | zero =>
    intro i k h1 h hk
    obtain ⟨k, rfl⟩ : ∃ k', k = k' + 1 := ⟨k - 1, by omega⟩
    refine ⟨R, ?_, fun ⟨j, a, b, _⟩ => by omega, fun _ => rfl⟩
    simp only [crucibleref06_Check.l1]
    rw [if_neg (by omega)]
    exact hR k (by omega)
  | succ d ih =>
    intro i k h1 h hk
    obtain ⟨k, rfl⟩ : ∃ k', k = k' + 1 := ⟨k - 1, by omega⟩
    by_cases hi : i < s.length
    · have hw : wrap64 ((i : Int) + 1) = ((i + 1 : Nat) : Int) := by unfold wrap64; omega
      have hw2 : wrap64 ((i : Int) - 1) = ((i - 1 : Nat) : Int) := by unfold wrap64; omega
      have m1 := hs _ (getD_mem s 0 i hi)
      have m2 := hs _ (getD_mem s 0 (i - 1) (by omega))
      simp only [crucibleref06_Check.l1, hw, hw2, rd_n]
      rw [if_pos (by omega), if_pos (by omega), if_pos m1.1, if_pos m1.2, if_pos (by omega), if_pos (by omega), if_pos m2.1, if_pos m2.2]
      by_cases hc : lab l (s.getD i 0) = lab l (s.getD (i - 1) 0)
      · exact ⟨60, by rw [if_pos hc], fun _ => rfl, fun h => absurd ⟨i, Nat.le_refl _, hi, hc⟩ h⟩
      · obtain ⟨r, e, y, n⟩ := ih (i + 1) k (by omega) (by omega) (by omega)
        refine ⟨r, by rw [if_neg hc]; exact e, fun ⟨j, a, b, c⟩ => y ⟨j, ?_, b, c⟩, fun hn => n fun ⟨j, a, b, c⟩ => hn ⟨j, by omega, b, c⟩⟩
        by_cases e2 : j = i
        · subst e2; exact absurd c hc
        · omega
    · refine ⟨R, ?_, fun ⟨j, a, b, _⟩ => by omega, fun _ => rfl⟩
      simp only [crucibleref06_Check.l1]
      rw [if_neg (by omega)]
      exact hR k (by omega)
theorem dup_row {l : List S37} {s : List Int} (S : Srt l 0 l.length s) : (∃ j, 1 ≤ j ∧ j < s.length ∧ lab l (s.getD j 0) = lab l (s.getD (j - 1) 0)) ↔ ∃ v, 0 < v ∧ 1 < cnt l v := by
  have get : ∀ j, (h : j < s.length) → s.getD j 0 = s[j] := fun j h => by rw [List.getD_eq_getElem?_getD, List.getElem?_eq_getElem h]; rfl
  constructor
  · rintro ⟨j, h1, h2, h3⟩
    obtain ⟨a1, a2, a3⟩ := (S.mem _).1 (getD_mem s 0 j h2)
    obtain ⟨b1, b2, b3⟩ := (S.mem _).1 (getD_mem s 0 (j - 1) (by omega))
    refine ⟨_, a3, (cnt_two _ l).2 ?_⟩
    have hne : s.getD j 0 ≠ s.getD (j - 1) 0 := by
      rw [get j h2, get (j - 1) (by omega)]
      exact fun e => List.pairwise_iff_getElem.1 S.nd (j - 1) j (by omega) h2 (by omega) e.symm
    generalize s.getD j 0 = x at *
    generalize s.getD (j - 1) 0 = y at *
    obtain ⟨p, rfl⟩ := Int.eq_ofNat_of_zero_le a1
    obtain ⟨q, rfl⟩ := Int.eq_ofNat_of_zero_le b1
    rw [lab_n, lab_n] at h3
    rw [lab_n]
    by_cases hpq : p < q
    · exact ⟨p, q, hpq, by omega, rfl, h3.symm⟩
    · exact ⟨q, p, by omega, by omega, h3.symm, rfl⟩
  · rintro ⟨v, hv, h⟩
    obtain ⟨p, q, h1, h2, h3, h4⟩ := (cnt_two v l).1 h
    have mp : (p : Int) ∈ s := (S.mem _).2 ⟨by omega, by omega, by rw [lab_n, h3]; exact hv⟩
    have mq : (q : Int) ∈ s := (S.mem _).2 ⟨by omega, by omega, by rw [lab_n, h4]; exact hv⟩
    obtain ⟨a, ha, ea⟩ := List.getElem_of_mem mp
    obtain ⟨b, hb, eb⟩ := List.getElem_of_mem mq
    have la : lab l s[a] = v := by rw [ea, lab_n, h3]
    have lb : lab l s[b] = v := by rw [eb, lab_n, h4]
    have hab : a ≠ b := fun e => by subst e; rw [ea] at eb; omega
    have near : ∀ a b, (ha : a < s.length) → (hb : b < s.length) → a < b → lab l s[a] = v → lab l s[b] = v → ∃ j, 1 ≤ j ∧ j < s.length ∧ lab l (s.getD j 0) = lab l (s.getD (j - 1) 0) := fun a b ha hb hlt la lb => by
      refine ⟨a + 1, by omega, by omega, ?_⟩
      rw [get (a + 1) (by omega), Nat.add_sub_cancel, get a ha]
      have h1 := List.pairwise_iff_getElem.1 S.pw a (a + 1) ha (by omega) (by omega)
      have h1' : lab l s[a] ≤ lab l s[a + 1] := h1
      by_cases e : a + 1 = b
      · subst e; omega
      · have h2 : lab l s[a + 1] ≤ lab l s[b] := List.pairwise_iff_getElem.1 S.pw (a + 1) b (by omega) hb (by omega)
        omega
    by_cases hlt : a < b
    · exact near a b ha hb hlt la lb
    · exact near b a hb ha (by omega) lb la
theorem chk_l0 (l : List S37) (him : ∀ x ∈ l, imOk x) (R : Int) (hl : l.length ≤ 262144) (hR : ∀ k, 4 * l.length + 10 ≤ k → (crucibleref06_sorted.f k l 0 (l.length : Int)).bind (fun t => crucibleref06_Check.l1 k l t 1) = some R) : ∀ (d i k : Nat), i + d = l.length → d + 4 * l.length + 20 ≤ k →
    crucibleref06_Check.l0 k l (i : Int) = some (if (l.drop i).all mayV = true then R else 1) := by
  intro d
  induction d with
  | zero =>
    intro i k h hk
    obtain rfl : i = l.length := by omega
    obtain ⟨k, rfl⟩ : ∃ k', k = k' + 1 := ⟨k - 1, by omega⟩
    simp only [crucibleref06_Check.l0]
    rw [if_neg (by omega), List.drop_length]
    exact hR k (by omega)
  | succ d ih =>
    intro i k h hk
    have hi : i < l.length := by omega
    obtain ⟨k, rfl⟩ : ∃ k', k = k' + 1 := ⟨k - 1, by omega⟩
    have hcons : l.drop i = l.getD i z37 :: l.drop (i + 1) := by rw [List.drop_eq_getElem_cons hi, List.getD_eq_getElem?_getD, List.getElem?_eq_getElem hi]; rfl
    have hw : wrap64 ((i : Int) + 1) = ((i + 1 : Nat) : Int) := by unfold wrap64; omega
    have hx := him _ (getD_mem l z37 i hi)
    have ihn := ih (i + 1) k (by omega) (by omega)
    have hline : ∀ x, imOk x → crucibleref06_line.f k x.f0 x.f1.f0 x.f1.f1 x.f1.f2 x.f1.f3 x.f1.f4 x.f2 = some (mayV x) := fun x hx => by
      obtain ⟨k0, rfl⟩ : ∃ k0, k = k0 + 7 := ⟨k - 7, by omega⟩
      exact lineR k0 x hx
    simp only [crucibleref06_Check.l0]
    rw [if_pos (by omega), if_pos (by omega), show rd_T37 l (i : Int) = l.getD i z37 by unfold rd_T37; rw [Int.toNat_natCast], hcons, hw]
    generalize l.getD i z37 = x at *
    rw [hline x hx]
    simp only [Option.bind_some]
    by_cases hm : mayV x = true
    · rw [if_pos hm, ihn]
      by_cases hr : (l.drop (i + 1)).all mayV = true
      · rw [if_pos hr, if_pos (show (x :: l.drop (i + 1)).all mayV = true by rw [List.all_cons, hm, hr]; rfl)]
      · rw [if_neg hr, if_neg (show ¬ (x :: l.drop (i + 1)).all mayV = true by rw [List.all_cons, hm, Bool.true_and]; exact hr)]
    · rw [if_neg hm, if_neg (show ¬ (x :: l.drop (i + 1)).all mayV = true by rw [List.all_cons, Bool.and_eq_true]; exact fun h => hm h.1)]
/-- The reference's Check. -/
theorem check_ref (l : List S37) (him : ∀ x ∈ l, imOk x) (k : Nat) (hk : 5 * l.length + 40 ≤ k) : crucibleref06_Check.f k l = some (checkV l) := by
  unfold crucibleref06_Check.f checkV
  by_cases hlen : 262144 < l.length
  · rw [if_pos (by omega), if_pos hlen]
  · rw [if_neg (by omega), if_neg hlen]
    have hl : l.length ≤ 262144 := by omega
    have hmain : ∀ k, 4 * l.length + 10 ≤ k → (crucibleref06_sorted.f k l 0 (l.length : Int)).bind (fun t => crucibleref06_Check.l1 k l t 1) = some (if l.any (badV l) = true then 60 else 0) := fun k hk => by
      obtain ⟨s, e, S⟩ := sorted_some l hl l.length 0 l.length k (by omega) (by omega) (by omega) (by omega) (by omega)
      rw [e]
      simp only [Option.bind_some]
      have hsl : s.length ≤ l.length := by have := S.len; omega
      have h2 := fun k (hk : 2 * l.length + 2 ≤ k) => chk_l2 l hl s S l.length 0 k (by omega) (by omega)
      obtain ⟨r, er, y, n⟩ := chk_l1 l hl s S _ h2 s.length 1 k (by omega) (by omega) (by omega)
      have er' : crucibleref06_Check.l1 k l s 1 = some r := er
      rw [er']
      rw [dup_row S] at y n
      rw [List.drop_zero] at n
      congr 1
      by_cases hd : ∃ v, 0 < v ∧ 1 < cnt l v
      · rw [y hd]
        obtain ⟨v, hv, hc⟩ := hd
        obtain ⟨i, hi, ei⟩ := (cnt_pos l v).1 (by omega)
        have : l.any (badV l) = true := any_yes l (badV l) z37 i hi (by unfold badV; rw [ei, decide_eq_true hv, decide_eq_true (show 1 < (cnt l v : Int) by omega)]; rfl)
        rw [if_pos this]
      · rw [n hd]
        have : l.any (badV l) = l.any (fun x => decide (0 < x.f2) && decide ((cnt l x.f2 : Int) = 0)) := by
          congr 1
          funext x
          unfold badV
          by_cases h1 : 0 < x.f0
          · have : ¬ 1 < cnt l x.f0 := fun h => hd ⟨_, h1, h⟩
            rw [decide_eq_false (show ¬ 1 < (cnt l x.f0 : Int) by omega), Bool.and_false, Bool.false_or]
          · rw [decide_eq_false h1, Bool.false_and, Bool.false_or]
        rw [this]
    have := chk_l0 l him _ hl hmain l.length 0 k (by omega) (by omega)
    rw [List.drop_zero] at this
    exact this
end Go.Proofs.Ytdhmnjoceeolcaa.Asm
end
section
namespace Go.Proofs.Ytdhmnjoceeolcaa.Asm
open Go.RowKit Go.Proofs.YtdhmnjoceeolcaaW.PrintWords Go.Proofs.YtdhmnjoceeolcaaW.PrintLast Go.Proofs.YtdhmnjoceeolcaaW.PrintMore Go.Proofs.Ytdhmnjoceeolcaa.GF
set_option linter.unusedVariables false
set_option linter.unusedSimpArgs false
theorem may_label (x : S37) (h : mayV x = true) : 0 ≤ x.f0 ∧ 0 ≤ x.f2 ∧ (0 < x.f0 → x.f2 = 0) := by
  have hs := may_some x
  rw [h] at hs
  unfold asm_may.f at hs
  by_cases c1 : x.f0 = 0
  · rw [if_pos c1] at hs
    by_cases c2 : x.f2 = 0
    · exact ⟨by omega, by omega, fun _ => c2⟩
    · rw [if_neg c2] at hs
      by_cases c3 : x.f2 < 0
      · rw [if_pos c3] at hs; cases hs
      · exact ⟨by omega, by omega, fun h => by omega⟩
  · rw [if_neg c1] at hs
    by_cases c2 : x.f0 > 0
    · rw [if_pos c2] at hs
      by_cases c3 : x.f2 = 0
      · exact ⟨by omega, by omega, fun _ => c3⟩
      · rw [if_neg c3] at hs; cases hs
    · rw [if_neg c2] at hs; cases hs
/-- Where a label stands, if some line has it. -/
theorem whO_at (l : List S37) (g : List Bool) (k : Int) (hk : 0 < k) : ∀ n, n ≤ l.length → (∀ i j, i < n → j < n → (l.getD i z37).f0 = k → (l.getD j z37).f0 = k → i = j) → ∀ i, i < n → (l.getD i z37).f0 = k → whO l g n k = some (atV l g i)
  | 0, _, _, i, h, _ => by omega
  | n + 1, hn, hu, i, h, e => by
    unfold whO
    by_cases hc : (l.getD n z37).f0 = k
    · obtain rfl := hu i n h (by omega) e hc
      rw [if_pos ⟨by rw [hc]; exact hk, hc⟩]
    · rw [if_neg (fun h => hc h.2)]
      have hin : i ≠ n := fun h => by subst h; exact hc e
      exact whO_at l g k hk n (by omega) (fun a b ha hb => hu a b (by omega) (by omega)) i (by omega) e
theorem check_ok (l : List S37) (h : checkV l = 0) : l.length ≤ 262144 ∧ l.all mayV = true ∧ l.any (badV l) = false := by
  unfold checkV at h
  by_cases h1 : 262144 < l.length
  · rw [if_pos h1] at h; exact absurd h (by decide)
  · rw [if_neg h1] at h
    by_cases h2 : l.all mayV = true
    · rw [if_pos h2] at h
      by_cases h3 : l.any (badV l) = true
      · rw [if_pos h3] at h; exact absurd h (by decide)
      · exact ⟨by omega, h2, by simpa using h3⟩
    · rw [if_neg h2] at h; exact absurd h (by decide)
end Go.Proofs.Ytdhmnjoceeolcaa.Asm
end
section
namespace Go.Proofs.Ytdhmnjoceeolcaa.Asm
open Go.RowKit Go.Proofs.YtdhmnjoceeolcaaW.PrintWords Go.Proofs.YtdhmnjoceeolcaaW.PrintLast Go.Proofs.YtdhmnjoceeolcaaW.PrintMore Go.Proofs.Ytdhmnjoceeolcaa.GF
set_option linter.unusedVariables false
set_option linter.unusedSimpArgs false
/-- The reference's layout in memory. -/
structure Sy (w wr : World) (n b bt bl ba : Nat) (tq : List Int) (g : List Bool) (a : List Int) : Prop where
  bb : wr.heap[b]? = some (.cells #[.slice (some ⟨bt, 0, none⟩) n n, .slice (some ⟨bl, 0, none⟩) n n, .slice (some ⟨ba, 0, none⟩) (n + 1) (n + 1)] 59 (0, 0))
  br : wr.heap[w.heap.size]? = some (.cells #[.slice none 0 0, .slice none 0 0, .slice none 0 0] 59 (0, 0))
  tt : wr.heap[bt]? = some (.cells (is tq) 3 (0, 0))
  ll : wr.heap[bl]? = some (.cells (bs g) 4 (0, 0))
  aa : wr.heap[ba]? = some (.cells (is a) 3 (0, 0))
  hb : w.heap.size < b
  ht : w.heap.size < bt
  hl : w.heap.size < bl
  ha : w.heap.size < ba
  lt : tq.length = n
  lg : g.length = n
  la : a.length = n + 1
  bel : Below w.heap.size w wr
section
variable {w wr w1 : World} {n b bt bl ba : Nat} {tq : List Int} {g : List Bool} {a : List Int}
theorem Sy.ne (h : Sy w wr n b bt bl ba tq g a) : bt ≠ ba := fun e => by
  have h1 := h.tt
  rw [e, h.aa] at h1
  have h2 := Option.some.inj h1
  injection h2 with h3 h4
  have h5 : (is a).size = (is tq).size := by rw [h3]
  simp only [is, List.size_toArray, List.length_map, h.la, h.lt] at h5
  omega
theorem Sy.below (h : Sy w wr n b bt bl ba tq g a) (k : Below wr.heap.size wr w1) : Sy w w1 n b bt bl ba tq g a :=
  { h with bb := blk_below h.bb k, br := blk_below h.br k, tt := blk_below h.tt k, ll := blk_below h.ll k, aa := blk_below h.aa k, bel := below_step h.bel k }
theorem Sy.setA (h : Sy w wr n b bt bl ba tq g a) (i : Nat) (x : Int) : Sy w (wr.setCell ⟨ba, i, none⟩ (.int .i64 x)) n b bt bl ba tq g (a.set i x) :=
  { h with bb := blk_far h.bb (blk_ne h.bb h.aa (by decide)) _, br := blk_far h.br (by have := h.ha; show w.heap.size ≠ ba; omega) _, tt := blk_far h.tt h.ne _, ll := blk_far h.ll (blk_ne h.ll h.aa (by decide)) _, aa := is_set h.aa i x, la := by rw [List.length_set]; exact h.la, bel := below_set h.bel (Nat.le_of_lt h.ha) }
theorem Sy.setT (h : Sy w wr n b bt bl ba tq g a) (i : Nat) (x : Int) : Sy w (wr.setCell ⟨bt, i, none⟩ (.int .i64 x)) n b bt bl ba (tq.set i x) g a :=
  { h with bb := blk_far h.bb (blk_ne h.bb h.tt (by decide)) _, br := blk_far h.br (by have := h.ht; show w.heap.size ≠ bt; omega) _, tt := is_set h.tt i x, ll := blk_far h.ll (blk_ne h.ll h.tt (by decide)) _, aa := blk_far h.aa (fun e => h.ne e.symm) _, lt := by rw [List.length_set]; exact h.lt, bel := below_set h.bel (Nat.le_of_lt h.ht) }
theorem Sy.setL (h : Sy w wr n b bt bl ba tq g a) (i : Nat) (x : Bool) : Sy w (wr.setCell ⟨bl, i, none⟩ (.bool x)) n b bt bl ba tq (g.set i x) a :=
  { h with bb := blk_far h.bb (blk_ne h.bb h.ll (by decide)) _, br := blk_far h.br (by have := h.hl; show w.heap.size ≠ bl; omega) _, tt := blk_far h.tt (blk_ne h.tt h.ll (by decide)) _, ll := bs_set h.ll i x, aa := blk_far h.aa (blk_ne h.aa h.ll (by decide)) _, lg := by rw [List.length_set]; exact h.lg, bel := below_set h.bel (Nat.le_of_lt h.hl) }
end
theorem szV_of {x : S37} {b : Bool} (h0 : 0 ≤ x.f0) (h : 0 < x.f0 → b = false) : szV x b = (if x.f0 = 0 then 1 else 0) + (if b = true then 1 else 0) := by
  unfold szV
  by_cases c : x.f0 = 0
  · rw [if_neg (by omega), if_pos c]; split <;> rfl
  · rw [if_pos (by omega), if_neg c, h (by omega)]; rfl
abbrev yA (n bt bl ba : Nat) : Value := .agg #[.slice (some ⟨bt, 0, none⟩) n n, .slice (some ⟨bl, 0, none⟩) n n, .slice (some ⟨ba, 0, none⟩) (n + 1) (n + 1)]
abbrev yO (n bt bl ba : Nat) : Obj := .cells #[.slice (some ⟨bt, 0, none⟩) n n, .slice (some ⟨bl, 0, none⟩) n n, .slice (some ⟨ba, 0, none⟩) (n + 1) (n + 1)] 59 (0, 0)
set_option maxHeartbeats 16000000 in
set_option maxRecDepth 100000 in
theorem laidR_calls {w w0 : World} {A : Option Addr} {l : List S37} {c : Nat} (hL : Aside0 (Kd.C k37 w A l.length l)) (hlen : l.length ≤ 262144) {b bt bl ba : Nat} {tq a : List Int} {g : List Bool} (hpos : Aside0 (∀ i, i < l.length → 0 ≤ (l.getD i z37).f0)) (hgl : Aside0 (∀ i, i < l.length → 0 < (l.getD i z37).f0 → g.getD i false = false)) (hY : Aside0 (Sy w w0 l.length b bt bl ba tq g a)) :
    Calls Try.prog 31 #[.slice A l.length c, yA l.length bt bl ba] w0 fun e w' => e = .returned (.tuple #[]) ∧ Sy w w' l.length b bt bl ba tq g (ats l g) := by
  have hX := Aside0.mk (blk_new w0 (yO l.length bt bl ba))
  have hxb : Aside0 (ba ≠ w0.heap.size) := ⟨by have := blk_lt hY.out.aa; omega⟩
  have hB0 : Aside0 (Below w0.heap.size w0 (w0.alloc (yO l.length bt bl ba))) := ⟨below_alloc (Below.refl _ _) _⟩
  have hal : Aside0 (w0.heap.size ≤ ba → True) := ⟨fun _ => trivial⟩
  replace hY := Aside0.mk (hY.out.below hB0.out)
  go_enter Try.func31, Try.ntmps31
  go_upto_region 1 with (fail)
  generalize w0.alloc (yO l.length bt bl ba) = W0 at *
  generalize hxe : w0.heap.size = xb at *
  go_wp2_with fail
  go_loopw [4, 5] (fun u4 u5 wr => ∃ (i : Nat) (a' : List Int), i ≤ l.length ∧ u4 = .int .i64 (atV l g i) ∧ u5 = .int .i64 i ∧ Aside0 (Sy w wr l.length b bt bl ba tq g a') ∧ Aside0 (wr.heap[xb]? = some (yO l.length bt bl ba)) ∧ Aside0 (∀ j, j < i → a'.getD j 0 = atV l g j)) (fun _ u _ => l.length - (intOf u).toNat)
  case atStart => exact ⟨0, _, Nat.zero_le _, rfl, rfl, hY, hX, ⟨fun j hj => by omega⟩⟩
  case round =>
    clear hY hX hxb hal hB0
    obtain ⟨i, a', hi, rfl, rfl, hY, hX, ha⟩ := hrel
    have hr1 := (atV_range l g i).1
    have hr2 := (atV_range l g i).2
    have hxb : Aside0 (xb ≠ ba) := ⟨blk_ne hX.out hY.out.aa (by decide)⟩
    have y2 := (blk_cell hX.out 2).trans (show _ = some (.slice (some ⟨ba, 0, none⟩) (l.length + 1) (l.length + 1)) from rfl)
    have hca : wr.cell? ⟨ba, i, none⟩ = some (.int .i64 (a'.getD i 0)) := is_cell hY.out.aa i (by rw [hY.out.la]; omega)
    have hfa : wr.frozen? ⟨ba, i, none⟩ = false := blk_frozen hY.out.aa i
    have q0 : (0 : Int) ≤ (i : Int) := by omega
    have q2 : (i : Int) < (l.length : Int) + 1 := by omega
    have ap1 := add_plain ba i
    have ap2 := add_plain bl i
    have ha2 : Aside0 (∀ j, j < i + 1 → (a'.set i (atV l g i)).getD j 0 = atV l g j) := ⟨fun j hj => by
      by_cases e : j = i
      · subst e
        have hl : j < a'.length := by have := hY.out.la; omega
        rw [List.getD_eq_getElem?_getD, List.getElem?_set_self hl]; rfl
      · rw [List.getD_eq_getElem?_getD, List.getElem?_set_ne (fun h => e h.symm), ← List.getD_eq_getElem?_getD]; exact ha.out j (by omega)⟩
    by_cases hlt : i < l.length
    · have q1 : (i : Int) < (l.length : Int) := by omega
      have hat : Aside0 (atV l g (i + 1) = atV l g i + szV (l.getD i z37) (g.getD i false)) := ⟨rfl⟩
      have hx0 := hpos.out i hlt
      rw [szV_of hx0 (hgl.out i hlt)] at hat
      go_upto_region 6 with (fail)
      replace hX := Aside0.mk (blk_far hX.out (p := ⟨ba, i, none⟩) hxb.out (.int .i64 (atV l g i)))
      replace hY := Aside0.mk (hY.out.setA i (atV l g i))
      generalize wr.setCell ⟨ba, i, none⟩ (.int .i64 (atV l g i)) = W at *
      clear y2 hca hfa ha
      generalize a'.set i (atV l g i) = a2 at *
      obtain ⟨ad, ea, c0, c1, c2, c3, c4, c5, c6⟩ := at_T37 (Kd.C_below hL.out hY.out.bel) (i : Int) (by omega) (by omega)
      subst ea
      simp only [Int.toNat_natCast, rd_L] at c0 c1 c2 c3 c4 c5 c6
      clear c1 c2 c3 c4 c5 c6
      have y1 := (blk_cell hX.out 1).trans (show _ = some (.slice (some ⟨bl, 0, none⟩) l.length l.length) from rfl)
      have hcl := bs_cell hY.out.ll i (by rw [hY.out.lg]; exact hlt)
      have hw1 : IntKind.i64.wrap (atV l g i + 1) = atV l g i + 1 := IntWalk.i64_in _ (by omega)
      have hw2 : IntKind.i64.wrap (atV l g i + 1 + 1) = atV l g i + 1 + 1 := IntWalk.i64_in _ (by omega)
      obtain ⟨bb, hbe⟩ : ∃ bb, g.getD i false = bb := ⟨_, rfl⟩
      rw [hbe] at hat hcl
      clear hbe
      generalize l.getD i z37 = x at *
      by_cases k0 : x.f0 = 0
      · have e0 : (x.f0 == 0) = true := by simpa using k0
        rw [if_pos k0] at hat
        replace k0 := Aside0.mk k0
        cases bb
        · rw [if_neg (by decide)] at hat
          have hn : Aside0 (atV l g (i + 1) = atV l g i + 1) := ⟨by rw [hat.out]; omega⟩
          go_wp2_with fail
          go_roundw
          case rel => exact ⟨i + 1, a2, by omega, by rw [hn.out], by go_num, hY, hX, ha2⟩
          case measure => simp [intOf]; omega
        · rw [if_pos rfl] at hat
          have hn : Aside0 (atV l g (i + 1) = atV l g i + 1 + 1) := ⟨by rw [hat.out]; omega⟩
          go_wp2_with fail
          go_roundw
          case rel => exact ⟨i + 1, a2, by omega, by rw [hn.out], by go_num, hY, hX, ha2⟩
          case measure => simp [intOf]; omega
      · have e0 : (x.f0 == 0) = false := beq_eq_false_iff_ne.2 k0
        rw [if_neg k0] at hat
        replace k0 := Aside0.mk k0
        cases bb
        · rw [if_neg (by decide)] at hat
          have hn : Aside0 (atV l g (i + 1) = atV l g i) := ⟨by rw [hat.out]; omega⟩
          go_wp2_with fail
          go_roundw
          case rel => exact ⟨i + 1, a2, by omega, by rw [hn.out], by go_num, hY, hX, ha2⟩
          case measure => simp [intOf]; omega
        · rw [if_pos rfl] at hat
          have hn : Aside0 (atV l g (i + 1) = atV l g i + 1) := ⟨by rw [hat.out]; omega⟩
          go_wp2_with fail
          go_roundw
          case rel => exact ⟨i + 1, a2, by omega, by rw [hn.out], by go_num, hY, hX, ha2⟩
          case measure => simp [intOf]; omega
    · obtain rfl : i = l.length := by omega
      replace hY := Aside0.mk (hY.out.setA l.length (atV l g l.length))
      have hae : Aside0 (a'.set l.length (atV l g l.length) = ats l g) := ⟨ats_of l g _ hY.out.la (fun j hj => ha2.out j (by omega))⟩
      rw [hae.out] at hY
      clear hX ha ha2
      go_wp2_with fail
      go_end0
      exact ⟨rfl, hY.out⟩
/-- The line that a label stands in. -/
def tgt (l : List S37) (k : Int) : Int := match l.findIdx? (fun x => x.f0 == k) with | some j => (j : Int) | none => -1
def toV (l : List S37) : List Int := l.map fun x => if 0 < x.f2 then tgt l x.f2 else -1
theorem toV_len (l : List S37) : (toV l).length = l.length := by simp [toV]
theorem toV_at (l : List S37) (i : Nat) (h : i < l.length) : (toV l).getD i 0 = if 0 < (l.getD i z37).f2 then tgt l (l.getD i z37).f2 else -1 := by
  simp [toV, List.getD_eq_getElem?_getD, h]
/-- Each label stands in one line only; a line that goes somewhere goes where a label stands. -/
structure Okl (l : List S37) : Prop where
  len : l.length ≤ 262144
  may : ∀ i, i < l.length → mayV (l.getD i z37) = true
  one : ∀ i j, i < l.length → j < l.length → 0 < (l.getD i z37).f0 → (l.getD j z37).f0 = (l.getD i z37).f0 → i = j
  goes : ∀ i, i < l.length → 0 < (l.getD i z37).f2 → ∃ j, j < l.length ∧ (l.getD j z37).f0 = (l.getD i z37).f2
theorem okl (l : List S37) (h : checkV l = 0) : Okl l := by
  obtain ⟨h1, h2, h3⟩ := check_ok l h
  rw [List.any_eq_false] at h3
  refine ⟨h1, fun i hi => List.all_eq_true.1 h2 _ (getD_mem l z37 i hi), fun i j hi hj hp he => ?_, fun i hi hp => ?_⟩
  · have hb := h3 _ (getD_mem l z37 i hi)
    unfold badV at hb
    rw [decide_eq_true hp, Bool.true_and] at hb
    have hc : ¬ 1 < (cnt l (l.getD i z37).f0 : Int) := fun h => hb (by rw [decide_eq_true h]; rfl)
    by_cases hij : i = j
    · exact hij
    · have h2 : 1 < cnt l (l.getD i z37).f0 := (cnt_two _ l).2 (by
        by_cases hlt : i < j
        · exact ⟨i, j, hlt, hj, rfl, he⟩
        · exact ⟨j, i, by omega, hi, he, rfl⟩)
      exact absurd (by omega) hc
  · have hb := h3 _ (getD_mem l z37 i hi)
    unfold badV at hb
    rw [decide_eq_true hp, Bool.true_and] at hb
    have hc : ¬ (cnt l (l.getD i z37).f2 : Int) = 0 := fun h => hb (by rw [decide_eq_true h]; simp)
    exact (cnt_pos l _).1 (by omega)
theorem tgt_none (l : List S37) (k : Int) (h : ¬ ∃ j, j < l.length ∧ (l.getD j z37).f0 = k) : tgt l k = -1 := by
  unfold tgt
  have : l.findIdx? (fun x => x.f0 == k) = none := by
    rw [List.findIdx?_eq_none_iff]
    intro x hx
    obtain ⟨j, hj, e⟩ := List.getElem_of_mem hx
    refine beq_eq_false_iff_ne.2 (fun e2 => h ⟨j, hj, ?_⟩)
    rw [List.getD_eq_getElem?_getD, List.getElem?_eq_getElem hj, ← e2, ← e]; rfl
  rw [this]
theorem tgt_some {l : List S37} (H : Okl l) (k : Int) (hk : 0 < k) (j : Nat) (hj : j < l.length) (e : (l.getD j z37).f0 = k) : tgt l k = j := by
  unfold tgt
  have : l.findIdx? (fun x => x.f0 == k) = some j := by
    rw [List.findIdx?_eq_some_iff_getElem]
    have get : ∀ i (hi : i < l.length), l.getD i z37 = l[i] := fun i hi => by rw [List.getD_eq_getElem?_getD, List.getElem?_eq_getElem hi]; rfl
    refine ⟨hj, by rw [← get j hj, e]; simp, fun i hi => ?_⟩
    rw [← get i (by omega)]
    simp only [Bool.not_eq_true, beq_eq_false_iff_ne, ne_eq]
    intro e2
    have := H.one i j (by omega) hj (by rw [e2]; exact hk) (by rw [e, e2])
    omega
  rw [this]
theorem find_tgt {l : List S37} (H : Okl l) (s : List Int) (S : Srt l 0 l.length s) (k : Int) (hk : 0 < k) (n : Nat) (hn : l.length + 1 ≤ n) : crucibleref06_find.f n l s k = some (tgt l k) := by
  have hsl := S.len
  have hln := H.len
  obtain ⟨r, e, y, no⟩ := find_some l s k (fun x hx => by have := (S.mem x).1 hx; omega) (by omega) S.pw n (by omega)
  rw [e]
  by_cases hx : ∃ j, j < l.length ∧ (l.getD j z37).f0 = k
  · obtain ⟨j, hj, ej⟩ := hx
    obtain ⟨h1, h2⟩ := y ⟨(j : Int), (S.mem _).2 ⟨by omega, by omega, by rw [lab_n, ej]; exact hk⟩, by rw [lab_n, ej]⟩
    obtain ⟨a1, a2, a3⟩ := (S.mem _).1 h1
    obtain ⟨q, rfl⟩ := Int.eq_ofNat_of_zero_le a1
    rw [lab_n] at h2
    rw [tgt_some H k hk q (by omega) h2]
  · rw [tgt_none l k hx, no (fun ⟨x, hx2, ex⟩ => hx ?_)]
    obtain ⟨a1, a2, a3⟩ := (S.mem _).1 hx2
    obtain ⟨q, rfl⟩ := Int.eq_ofNat_of_zero_le a1
    rw [lab_n] at ex
    exact ⟨q, by omega, ex⟩
/-- Where a label stands. -/
theorem wh_at {l : List S37} (H : Okl l) (g : List Bool) (k : Int) (hk : 0 < k) (j : Nat) (hj : j < l.length) (e : (l.getD j z37).f0 = k) : whO l g l.length k = some (atV l g j) :=
  whO_at l g k hk l.length (Nat.le_refl _) (fun a b ha hb e1 e2 => H.one a b ha hb (by rw [e1]; exact hk) (by rw [e2, e1])) j hj e
theorem away_dV {l : List S37} (H : Okl l) (g : List Bool) (i : Nat) (hi : i < l.length) (hp : 0 < (l.getD i z37).f2) (d : Int) (hd0 : 0 ≤ d) (hd : d ≤ 2) :
    crucibleref06_away.f (toV l) g (ats l g) (i : Int) (atV l g i + d) = some (dV l g i + 1 - d) := by
  obtain ⟨j, hj, e⟩ := H.goes i hi hp
  have h1 : rd (toV l) (i : Int) = (j : Int) := by rw [rd_n, toV_at l i hi, if_pos hp, tgt_some H _ hp j hj e]
  have h2 := atV_range l g j
  have h3 := atV_range l g i
  have hln := H.len
  unfold crucibleref06_away.f dV whV
  rw [toV_len, h1, ats_len, if_pos (by omega), if_pos (by omega), if_pos (by omega), if_pos (by omega), rd_n, ats_at l g j (by omega), wh_at H g _ hp j hj e]
  simp only [Option.getD_some]
  rw [show wrap64 (atV l g j - (atV l g i + d)) = atV l g j - (atV l g i + d) by unfold wrap64; omega]
  congr 1; omega
/-- The lines that are to be long, of the first ones. -/
def gw (l : List S37) (g : List Bool) : Nat → List Int
  | 0 => []
  | i + 1 => if farV l g i = true then gw l g i ++ [(i : Int)] else gw l g i
def stL (g : List Bool) (xs : List Int) : List Bool := xs.foldl (fun g x => g.set x.toNat true) g
theorem stL_gw (l : List S37) (g : List Bool) : ∀ i, stL g (gw l g i) = gr l g i
  | 0 => rfl
  | i + 1 => by
    have ih := stL_gw l g i
    unfold gw gr
    split
    · unfold stL at ih ⊢
      rw [List.foldl_append, ih]; rfl
    · exact ih
theorem gw_len (l : List S37) (g : List Bool) : ∀ i, (gw l g i).length ≤ i
  | 0 => Nat.le_refl _
  | i + 1 => by
    have ih := gw_len l g i
    unfold gw
    split
    · simp; omega
    · omega
theorem gw_mem (l : List S37) (g : List Bool) : ∀ i x, x ∈ gw l g i → 0 ≤ x ∧ x < i
  | 0, x, h => by cases h
  | i + 1, x, h => by
    have ih := gw_mem l g i x
    unfold gw at h
    split at h
    · rcases List.mem_append.1 h with h | h
      · have := ih h; omega
      · have := List.mem_singleton.1 h; omega
    · have := ih h; omega
theorem gw_tv (l : List S37) (g : List Bool) : ∀ i, tv l g i = decide (0 < (gw l g i).length)
  | 0 => rfl
  | i + 1 => by
    have ih := gw_tv l g i
    unfold tv gw
    cases farV l g i
    · simpa using ih
    · simp
theorem stL_snoc (g : List Bool) (xs : List Int) (q : Nat) (h : q < xs.length) : stL g (xs.take (q + 1)) = (stL g (xs.take q)).set (xs.getD q 0).toNat true := by
  rw [take_snoc xs q 0 h]
  unfold stL
  rw [List.foldl_append]; rfl
theorem settle_len (l : List S37) : (settle l).length = l.length := by unfold settle; rw [lay_len]; simp
/-- Labels are never long. -/
def Gd (l : List S37) (g : List Bool) : Prop := ∀ i, i < l.length → 0 < (l.getD i z37).f0 → g.getD i false = false
theorem Gd.gr {l : List S37} (H : Okl l) {g : List Bool} (h : Gd l g) : ∀ k, k ≤ l.length → Gd l (gr l g k)
  | 0, _ => h
  | k + 1, hk => by
    have ih := Gd.gr H h k (by omega)
    intro i hi hp
    unfold Asm.gr
    split
    · next hf =>
      by_cases e : k = i
      · subst e
        have h2 := (may_label _ (H.may k hi)).2.2 hp
        unfold farV at hf
        rw [h2] at hf
        simp at hf
      · rw [List.getD_eq_getElem?_getD, List.getElem?_set_ne e, ← List.getD_eq_getElem?_getD]; exact ih i hi hp
    · exact ih i hi hp
/-- A made row. -/
def Ma (w w' : World) (z : Value) (n : Nat) (cs : Array Value) (e : Nat) : Prop := ∃ g, z = .slice (some ⟨g, 0, none⟩) n n ∧ w.heap.size < g ∧ w'.heap[g]? = some (.cells cs e (0, 0))
theorem Ma.alloc {w w' : World} {z : Value} {n e : Nat} {cs : Array Value} (h : Ma w w' z n cs e) (o : Obj) : Ma w (w'.alloc o) z n cs e := by
  obtain ⟨g, h1, h2, h3⟩ := h
  exact ⟨g, h1, h2, blk_alloc h3 o⟩
theorem Ma.new {w w' : World} (h : w.heap.size < w'.heap.size) (n e : Nat) (cs : Array Value) : Ma w (w'.alloc (.cells cs e)) (.slice (some ⟨w'.heap.size, 0, none⟩) n n) n cs e := ⟨_, rfl, h, blk_new w' _⟩
theorem Ma.box {w w' : World} {z : Value} {n e gb : Nat} {cs c : Array Value} (h : Ma w w' z n cs e) (hc : w'.heap[gb]? = some (.cells c 59 (0, 0))) (he : e ≠ 59) (u v x : Value) :
    Ma w (((w'.setCell ⟨gb, 0, none⟩ u).setCell ⟨gb, 1, none⟩ v).setCell ⟨gb, 2, none⟩ x) z n cs e := by
  obtain ⟨g, h1, h2, h3⟩ := h
  have hne := blk_ne h3 hc he
  exact ⟨g, h1, h2, blk_far (blk_far (blk_far h3 hne u) hne v) hne x⟩
def Bx (w w' : World) (z : Value) (cs : Array Value) : Prop := ∃ g, z = PP g ∧ w.heap.size < g ∧ w'.heap[g]? = some (.cells cs 59 (0, 0))
theorem Bx.alloc {w w' : World} {z : Value} {cs : Array Value} (h : Bx w w' z cs) (o : Obj) : Bx w (w'.alloc o) z cs := by
  obtain ⟨g, h1, h2, h3⟩ := h
  exact ⟨g, h1, h2, blk_alloc h3 o⟩
theorem Bx.new {w w' : World} (h : w.heap.size < w'.heap.size) (cs : Array Value) : Bx w (w'.alloc (.cells cs 59)) (PP w'.heap.size) cs := ⟨_, rfl, h, blk_new w' _⟩
theorem lt_alloc {w w' : World} (h : w.heap.size < w'.heap.size) (o : Obj) : w.heap.size < (w'.alloc o).heap.size := by simp; omega
def zT (n : Nat) : List Int := List.replicate n 0
theorem mk47n (n : Nat) (h : n ≤ 262144) (W : World) : (Instr.makeSlice 47 (.int .i64 (n : Int)) (.int .i64 (n : Int))).run Try.prog W = .ok (.slice (some ⟨W.heap.size, 0, none⟩) n n) (W.alloc (.cells (is (zT n)) 3)) := by
  have := print_make_int (P := Try.prog) 47 3 (.int .i64 0) 8 Try.underlying47 info3 rfl (by decide) (n : Int) (by omega) (by omega) W
  rwa [Int.toNat_natCast, made_rep, ← is_rep] at this
/-- The row as_ the words have it. -/
theorem R_is {w w' : World} {g n : Nat} {l : List Int} (h : w'.heap[g]? = some (.cells (is l) 3 (0, 0))) (hg : w.heap.size ≤ g) (hl : l.length = n) (hn : n ≤ 1000000) (ok : Nat → Prop) (hok : ok g) : (Kd.int .i64).R 3 w' w.heap.size ok (.slice (some ⟨g, 0, none⟩) n n) l := by
  subst hl
  refine Kd.R_of_own ⟨by simp [encs], .inr ⟨g, l.length, is l, rfl, hg, h, Nat.le_refl _, Nat.le_trans hn (by decide), by simp [is], by simp [is, encs, List.take_of_length_le]⟩⟩ (fun k hk => ?_)
  simp only [Value.ownBlock, Option.some.injEq] at hk
  subst hk; exact hok
theorem R_bs {w w' : World} {g n : Nat} {l : List Bool} (h : w'.heap[g]? = some (.cells (bs l) 4 (0, 0))) (hg : w.heap.size ≤ g) (hl : l.length = n) (hn : n ≤ 1000000) (ok : Nat → Prop) (hok : ok g) : Kd.bool.R 4 w' w.heap.size ok (.slice (some ⟨g, 0, none⟩) n n) l := by
  subst hl
  refine Kd.R_of_own ⟨by simp [encs], .inr ⟨g, l.length, bs l, rfl, hg, h, Nat.le_refl _, Nat.le_trans hn (by decide), by simp [bs], by simp [bs, encs, List.take_of_length_le]⟩⟩ (fun k hk => ?_)
  simp only [Value.ownBlock, Option.some.injEq] at hk
  subst hk; exact hok
end Go.Proofs.Ytdhmnjoceeolcaa.Asm
end
