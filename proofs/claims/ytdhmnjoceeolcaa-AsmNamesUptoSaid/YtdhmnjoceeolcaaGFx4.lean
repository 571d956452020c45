-- laid by given.sh
import Derived.Test.YtdhmnjoceeolcaaGFx0
import Derived.Test.YtdhmnjoceeolcaaGFx1
import Derived.Test.YtdhmnjoceeolcaaGFx3
import Derived.Test.YtdhmnjoceeolcaaGFy4
import Derived.Test.YtdhmnjoceeolcaaAsG
namespace Go.Proofs.Ytdhmnjoceeolcaa.GF
open Go.RowKit Go.Proofs.YtdhmnjoceeolcaaW.PrintWords Go.Proofs.YtdhmnjoceeolcaaW.PrintLast Go.Proofs.YtdhmnjoceeolcaaW.PrintMore
attribute [local go_sem] max2_int min2_int max_two min_two max_three min_three max_four min_four   -- for this text's walks alone
set_option linter.unusedVariables false
set_option linter.unusedSimpArgs false

attribute [local go_sem high] eqA24
/-! ### asm_Check: function 11 (walked by hand in AsB) -/
def asm_Check.f (l0 : List (S37)) : Option (Int) := some (Asm.checkV l0)
theorem asm_Check.calls (A0 : Option Addr) (c0 : Nat) (l0 : List (S37)) (r : Int) (w : World) (hr0 : Kd.C k37 w A0 l0.length l0) (hc0 : l0.length ≤ c0) (h : asm_Check.f l0 = some r) :
    Calls Try.prog 11 #[.slice A0 l0.length c0] w fun e w' => e = .returned (.int .i64 r) ∧ Below w.heap.size w w' := by
  cases h
  exact Asm.check_calls ⟨hr0⟩

/-! ### asm_Assemble: function 8 (walked by hand in AsG) -/
def asm_Assemble.f (l0 : List (S37)) : Option (ByteArray × Int) := some (Asm.asmV l0)
theorem asm_Assemble.calls (A0 : Option Addr) (c0 : Nat) (l0 : List (S37)) (r1 : ByteArray) (r2 : Int) (w : World) (hr0 : Kd.C k37 w A0 l0.length l0) (hc0 : l0.length ≤ c0) (h : asm_Assemble.f l0 = some (r1, r2)) :
    Calls Try.prog 8 #[.slice A0 l0.length c0] w fun e w' => e = .returned (.tuple #[.string r1, .int .i64 r2]) ∧ Below w.heap.size w w' := by
  obtain ⟨h1, h2⟩ : (Asm.asmV l0).1 = r1 ∧ (Asm.asmV l0).2 = r2 := by have := Option.some.inj h; rw [this]; exact ⟨rfl, rfl⟩
  subst h1
  subst h2
  exact Asm.assemble_calls ⟨hr0⟩

/-! ### cruciblelaw06_own: function 9 -/
def cruciblelaw06_own.f (l0 : List (S37)) : Option ((List (S37))) := if ([] : List (S37)).length + l0.length < 2513169434916 then (some (([] : List (S37)) ++ l0)) else (none)
set_option maxHeartbeats 8000000 in
set_option maxRecDepth 100000 in
theorem cruciblelaw06_own.calls (A0 : Option Addr) (c0 : Nat) (l0 : List (S37)) (r : List (S37)) (w : World) (hr0 : Kd.C k37 w A0 l0.length l0) (hc0 : l0.length ≤ c0) (h : cruciblelaw06_own.f l0 = some r) :
    Calls Try.prog 9 #[.slice A0 l0.length c0] w fun e w' => ∃ v0_ : Value, e = .returned (v0_) ∧ Kd.R k37 37 w' w.heap.size (fun _ => True) v0_ r ∧ Below w.heap.size w w' := by
  have HR0 := Aside0.mk hr0
  have HC0 := Aside0.mk hc0
  clear hr0 hc0
  have HB := Aside0.mk (Below.refl w.heap.size w)
  have H : (if ([] : List (S37)).length + l0.length < 2513169434916 then (some (([] : List (S37)) ++ l0)) else (none)) = some r := h
  clear h
  by_cases c2 : ([] : List (S37)).length + l0.length < 2513169434916
  · rw [if_pos c2] at H
    have LMc2 := Aside0.mk c2
    clear c2
    obtain ⟨y125, hy125⟩ : ∃ y_ : List (S37), y_ = (([] : List (S37)) ++ l0) := ⟨_, rfl⟩
    replace H : (some y125) = some r := by first | (rw [hy125]; with_reducible exact H) | (have H2_ := (Option.bind_some _ _).symm.trans H; rw [hy125]; with_reducible exact H2_) | (have H2_ := (Option.bind_some _ _).symm.trans H; with_reducible exact H2_) | with_reducible exact H | (rw [hy125]; exact H) | exact H
    have Ny125 := Aside0.mk hy125
    clear hy125
    obtain rfl := Option.some.inj H
    go_enter Try.func9, Try.ntmps9
    go_wp2_with (first | ((with_reducible refine gate_builtin (b := .append) (xs := #[.tmp 4, .tmp 5]) rfl ?_); at_builtin; refine Kd.R_append_rows k37 (w0 := w) w.heap.size rfl (.tmp 4) (.tmp 5) 22 37 (.agg #[(.int .i64 0), (.int .i64 0), (.int .i64 0), (.int .i64 0), (.int .i64 0), (.int .i32 0), (.int .i64 0)]) 56 rfl Try.underlying22 info37 rfl (by decide) (by omega) (.slice none 0 0) ([] : List (S37)) l0 _ _ _ (fun _ => True) (fun _ => False) rfl rfl ?aO ?aR (fun _ _ h => h) (fun _ h => h.elim) ?aF ?aB ?aS ?aL ?_; (case aR => repeat (first | exact HR0.out | (with_reducible refine Kd.C_alloc ?_ _) | (with_reducible refine Kd.C_drewN ?_ _) | (with_reducible refine Kd.C_drew ?_))); (case aB => exact (by repeat (first | (with_reducible first | exact HB.out | apply below_alloc | apply pw_below_drewN | apply below_drew1) | exact HB.out))); (case aF => exact (fun _ _ => trivial)); (case aO => exact ((Kd.R_nil _ _ _ _ (fun _ => True)))); (case aS => exact (below_size (by repeat (first | (with_reducible first | exact HB.out | apply below_alloc | apply pw_below_drewN | apply below_drew1) | exact HB.out)))); (case aL => have := LMc2.out; omega); intro v126 w3 ho hb hg hat; rw [← Ny125.out] at ho; have n0_ := Aside0.mk (hb); have n1_ := Aside0.mk (ho); clear HB; have HB := n0_; have HO127 := n1_; clear n0_ n1_; clear ho hb hg hat))
    go_ret
    exact ⟨_, by first | rfl | (simp [errW_none, errW_some] <;> rfl) | (simp [*, errW_none, errW_some] <;> rfl), by (with_reducible repeat (first | apply Kd.R_alloc | apply Kd.R_drewN | apply Kd.R_drew)); exact HO127.out, by repeat (first | (with_reducible first | exact HB.out | apply below_alloc | apply pw_below_drewN | apply below_drew1) | exact HB.out)⟩
  · rw [if_neg c2] at H
    exact absurd H (by simp)

/-! ### cruciblelaw06_awake: function 13 -/
def cruciblelaw06_awake.f  : Option (Bool) := (asm_Assemble.f (([(⟨1, (⟨0, 0, 0, 0, 0⟩ : S24), 0⟩ : S37), (⟨0, (⟨32, 1, 1, 0, (-1)⟩ : S24), 0⟩ : S37), (⟨0, (⟨40, 0, 1, 0, 0⟩ : S24), 1⟩ : S37)] : List (S37)))).bind fun bt131 => (if bt131.2 = 0 then (if (bt131.1.size : Int) = 8 then (if 4 < (bt131.1.size : Int) then (some ((bt bt131.1 4) == 254)) else (none)) else (some false)) else (some false))
set_option maxHeartbeats 8000000 in
set_option maxRecDepth 100000 in
theorem cruciblelaw06_awake.calls  (r : Bool) (w : World) (h : cruciblelaw06_awake.f  = some r) :
    Calls Try.prog 13 #[] w fun e w' => e = .returned (.bool r) ∧ Below w.heap.size w w' := by
  have hu37 := Try.underlying37
  have hu24 := Try.underlying24
  have HB := Aside0.mk (Below.refl w.heap.size w)
  have H : ((asm_Assemble.f (([(⟨1, (⟨0, 0, 0, 0, 0⟩ : S24), 0⟩ : S37), (⟨0, (⟨32, 1, 1, 0, (-1)⟩ : S24), 0⟩ : S37), (⟨0, (⟨40, 0, 1, 0, 0⟩ : S24), 1⟩ : S37)] : List (S37)))).bind fun bt131 => (if bt131.2 = 0 then (if (bt131.1.size : Int) = 8 then (if 4 < (bt131.1.size : Int) then (some ((bt bt131.1 4) == 254)) else (none)) else (some false)) else (some false))) = some r := h
  clear h
  obtain ⟨y128, hy128⟩ : ∃ y_ : List (S37), y_ = (([(⟨1, (⟨0, 0, 0, 0, 0⟩ : S24), 0⟩ : S37), (⟨0, (⟨32, 1, 1, 0, (-1)⟩ : S24), 0⟩ : S37), (⟨0, (⟨40, 0, 1, 0, 0⟩ : S24), 1⟩ : S37)] : List (S37))) := ⟨_, rfl⟩
  replace H : ((asm_Assemble.f y128).bind fun bt131 => (if bt131.2 = 0 then (if (bt131.1.size : Int) = 8 then (if 4 < (bt131.1.size : Int) then (some ((bt bt131.1 4) == 254)) else (none)) else (some false)) else (some false))) = some r := by first | (rw [hy128]; with_reducible exact H) | (have H2_ := (Option.bind_some _ _).symm.trans H; rw [hy128]; with_reducible exact H2_) | (have H2_ := (Option.bind_some _ _).symm.trans H; with_reducible exact H2_) | with_reducible exact H | (rw [hy128]; exact H) | exact H
  have Ny128 := Aside0.mk hy128
  clear hy128
  replace H := Option.bind_eq_some_iff.mp H
  obtain ⟨⟨t131, t132⟩, A10, H⟩ := H
  replace H : (if t132 = 0 then (if (t131.size : Int) = 8 then (if 4 < (t131.size : Int) then (some ((bt t131 4) == 254)) else (none)) else (some false)) else (some false)) = some r := H
  have A1 := Aside0.mk A10
  clear A10
  by_cases c2 : t132 = 0
  · rw [if_pos c2] at H
    have c2b0 : (t132 == 0) = true := beq_iff_eq.mpr c2
    have c2b1 : (t132 != 0) = false := bne_eq_false_iff_eq.mpr c2
    clear c2
    by_cases c3 : (t131.size : Int) = 8
    · rw [if_pos c3] at H
      have c3b0 : ((t131.size : Int) == 8) = true := beq_iff_eq.mpr c3
      have c3b1 : ((t131.size : Int) != 8) = false := bne_eq_false_iff_eq.mpr c3
      clear c3
      by_cases c4 : 4 < (t131.size : Int)
      · rw [if_pos c4] at H
        have c4b0 : decide (4 < (t131.size : Int)) = true := decide_eq_true c4
        have c4b1 : decide (4 < t131.size) = true := decide_eq_true (by omega)
        clear c4
        obtain rfl := Option.some.inj H
        go_enter Try.func13, Try.ntmps13
        go_wp2_with (first | ((with_reducible refine gate_dst (N := 9) rfl ?_); (try (refine gate_guard (by rfl) ?_; dsimp only)); refine Kd.R_lit k37 _ 37 ?hg (N := 9) ?hd (xs := ([(⟨1, (⟨0, 0, 0, 0, 0⟩ : S24), 0⟩ : S37), (⟨0, (⟨32, 1, 1, 0, (-1)⟩ : S24), 0⟩ : S37), (⟨0, (⟨40, 0, 1, 0, 0⟩ : S24), 1⟩ : S37)] : List (S37))) (inner := [.int .i64 1, .int .i64 0, .int .i64 0, .int .i64 0, .int .i64 0, .int .i32 0, .int .i64 0, .int .i64 0, .int .i64 32, .int .i64 1, .int .i64 1, .int .i64 0, .int .i32 (-1), .int .i64 0, .int .i64 0, .int .i64 40, .int .i64 0, .int .i64 1, .int .i64 0, .int .i32 0, .int .i64 1]) (ok := fun _ => True) (okp := fun _ => True) ?hr ?hp (fun _ hk => hk) trivial (Below.refl _ _) (Nat.le_refl _) (by simp) ?_; (case hd => rfl); (case hg => rfl); (case hr => first | (go_simp; done) | (go_simp; rfl)); (case hp => exact (Reps.c7 (show Kd.M k37 _ _ _ (⟨1, (⟨0, 0, 0, 0, 0⟩ : S24), 0⟩ : S37) [.int .i64 1, .int .i64 0, .int .i64 0, .int .i64 0, .int .i64 0, .int .i32 0, .int .i64 0] from (k37_mkM _ _ _ (⟨1, (⟨0, 0, 0, 0, 0⟩ : S24), 0⟩ : S37) )) (Reps.c7 (show Kd.M k37 _ _ _ (⟨0, (⟨32, 1, 1, 0, (-1)⟩ : S24), 0⟩ : S37) [.int .i64 0, .int .i64 32, .int .i64 1, .int .i64 1, .int .i64 0, .int .i32 (-1), .int .i64 0] from (k37_mkM _ _ _ (⟨0, (⟨32, 1, 1, 0, (-1)⟩ : S24), 0⟩ : S37) )) (Reps.c7 (show Kd.M k37 _ _ _ (⟨0, (⟨40, 0, 1, 0, 0⟩ : S24), 1⟩ : S37) [.int .i64 0, .int .i64 40, .int .i64 0, .int .i64 1, .int .i64 0, .int .i32 0, .int .i64 1] from (k37_mkM _ _ _ (⟨0, (⟨40, 0, 1, 0, 0⟩ : S24), 1⟩ : S37) )) (Reps.none _ _))))); intro v129 w6 ho7 hb hg_ hnew_; clear hg_ hnew_; (first | rw [← Ny128.out] at ho7 | (simp only [Int.reduceToNat] at ho7; rw [← Ny128.out] at ho7)); have n0_ := Aside0.mk (Kd.R_lower ho7 (below_size (by repeat (first | (with_reducible first | exact HB.out | apply below_alloc | apply pw_below_drewN | apply below_drew1) | exact HB.out)))); have n1_ := Aside0.mk (below_step (by repeat (first | (with_reducible first | exact HB.out | apply below_alloc | apply pw_below_drewN | apply below_drew1) | exact HB.out)) hb); clear HB; have HO130 := n0_; have HB := n1_; clear n0_ n1_; clear hb ho7; obtain ⟨Ao8, co8, eo8⟩ := Kd.R_slice HO130.out; subst eo8) | ((with_reducible refine gate_callee (f := 8) rfl ?_); refine goesL_ (some 10) rfl rfl Try.func8 (by kernel_rfl) rfl #[.slice Ao8 y128.length co8] rfl (by (try simp only [List.map_toArray, List.map_cons, List.map_nil]); first | done | rfl | (simp only [List.length_drop, List.length_take]; rfl)) ?_; (with_reducible refine (asm_Assemble.calls _ _ y128 t131 t132 _ ?side1 ?side2 A1.out).mono ?_); (case side1 => repeat (first | exact (Kd.R_reads' HO130.out).2.2 | (with_reducible refine Kd.C_alloc ?_ _) | (with_reducible refine Kd.C_drewN ?_ _) | (with_reducible refine Kd.C_drew ?_))); (case side2 => exact (Kd.R_reads' HO130.out).2.1); rintro e w9 ⟨rfl, hb⟩; refine ⟨_, rfl, ?_⟩; have n0_ := Aside0.mk (Kd.R_below (by (with_reducible repeat (first | apply Kd.R_alloc | apply Kd.R_drewN | apply Kd.R_drew)); exact HO130.out) hb); have n1_ := Aside0.mk (below_step (by repeat (first | (with_reducible first | exact HB.out | apply below_alloc | apply pw_below_drewN | apply below_drew1) | exact HB.out)) hb); clear HO130; clear HB; have HO130 := n0_; have HB := n1_; clear n0_ n1_; (try clear hb); (try clear hb2); (try clear hk); (try clear hi); have p5 : 0 ≤ (4 : Int) := (by omega); have q5 : 4 < t131.size := (by have : (4 : Int) < (t131.size : Int) := of_decide_eq_true (by first | (with_reducible assumption) | assumption); omega); have hx5 : ∀ h : 4 < t131.size, ((t131[4]'h).toNat : Int) = bt t131 4 := bt_at t131 4; clear p5; have qi5 : (4 < (t131.size : Int)) = True := eq_true (of_decide_eq_true (by first | (with_reducible assumption) | assumption)); replace q5 := eq_true q5))
        go_ret
        exact ⟨by first | rfl | (simp [errW_none, errW_some] <;> rfl) | (simp [*, errW_none, errW_some] <;> rfl), by repeat (first | (with_reducible first | exact HB.out | apply below_alloc | apply pw_below_drewN | apply below_drew1) | exact HB.out)⟩
      · rw [if_neg c4] at H
        exact absurd H (by simp)
    · rw [if_neg c3] at H
      have c3b0 : ((t131.size : Int) == 8) = false := beq_eq_false_iff_ne.mpr c3
      have c3b1 : ((t131.size : Int) != 8) = true := bne_iff_ne.mpr c3
      obtain rfl := Option.some.inj H
      go_enter Try.func13, Try.ntmps13
      go_wp2_with (first | ((with_reducible refine gate_dst (N := 9) rfl ?_); (try (refine gate_guard (by rfl) ?_; dsimp only)); refine Kd.R_lit k37 _ 37 ?hg (N := 9) ?hd (xs := ([(⟨1, (⟨0, 0, 0, 0, 0⟩ : S24), 0⟩ : S37), (⟨0, (⟨32, 1, 1, 0, (-1)⟩ : S24), 0⟩ : S37), (⟨0, (⟨40, 0, 1, 0, 0⟩ : S24), 1⟩ : S37)] : List (S37))) (inner := [.int .i64 1, .int .i64 0, .int .i64 0, .int .i64 0, .int .i64 0, .int .i32 0, .int .i64 0, .int .i64 0, .int .i64 32, .int .i64 1, .int .i64 1, .int .i64 0, .int .i32 (-1), .int .i64 0, .int .i64 0, .int .i64 40, .int .i64 0, .int .i64 1, .int .i64 0, .int .i32 0, .int .i64 1]) (ok := fun _ => True) (okp := fun _ => True) ?hr ?hp (fun _ hk => hk) trivial (Below.refl _ _) (Nat.le_refl _) (by simp) ?_; (case hd => rfl); (case hg => rfl); (case hr => first | (go_simp; done) | (go_simp; rfl)); (case hp => exact (Reps.c7 (show Kd.M k37 _ _ _ (⟨1, (⟨0, 0, 0, 0, 0⟩ : S24), 0⟩ : S37) [.int .i64 1, .int .i64 0, .int .i64 0, .int .i64 0, .int .i64 0, .int .i32 0, .int .i64 0] from (k37_mkM _ _ _ (⟨1, (⟨0, 0, 0, 0, 0⟩ : S24), 0⟩ : S37) )) (Reps.c7 (show Kd.M k37 _ _ _ (⟨0, (⟨32, 1, 1, 0, (-1)⟩ : S24), 0⟩ : S37) [.int .i64 0, .int .i64 32, .int .i64 1, .int .i64 1, .int .i64 0, .int .i32 (-1), .int .i64 0] from (k37_mkM _ _ _ (⟨0, (⟨32, 1, 1, 0, (-1)⟩ : S24), 0⟩ : S37) )) (Reps.c7 (show Kd.M k37 _ _ _ (⟨0, (⟨40, 0, 1, 0, 0⟩ : S24), 1⟩ : S37) [.int .i64 0, .int .i64 40, .int .i64 0, .int .i64 1, .int .i64 0, .int .i32 0, .int .i64 1] from (k37_mkM _ _ _ (⟨0, (⟨40, 0, 1, 0, 0⟩ : S24), 1⟩ : S37) )) (Reps.none _ _))))); intro v129 w10 ho11 hb hg_ hnew_; clear hg_ hnew_; (first | rw [← Ny128.out] at ho11 | (simp only [Int.reduceToNat] at ho11; rw [← Ny128.out] at ho11)); have n0_ := Aside0.mk (Kd.R_lower ho11 (below_size (by repeat (first | (with_reducible first | exact HB.out | apply below_alloc | apply pw_below_drewN | apply below_drew1) | exact HB.out)))); have n1_ := Aside0.mk (below_step (by repeat (first | (with_reducible first | exact HB.out | apply below_alloc | apply pw_below_drewN | apply below_drew1) | exact HB.out)) hb); clear HB; have HO130 := n0_; have HB := n1_; clear n0_ n1_; clear hb ho11; obtain ⟨Ao12, co12, eo12⟩ := Kd.R_slice HO130.out; subst eo12) | ((with_reducible refine gate_callee (f := 8) rfl ?_); refine goesL_ (some 10) rfl rfl Try.func8 (by kernel_rfl) rfl #[.slice Ao12 y128.length co12] rfl (by (try simp only [List.map_toArray, List.map_cons, List.map_nil]); first | done | rfl | (simp only [List.length_drop, List.length_take]; rfl)) ?_; (with_reducible refine (asm_Assemble.calls _ _ y128 t131 t132 _ ?side1 ?side2 A1.out).mono ?_); (case side1 => repeat (first | exact (Kd.R_reads' HO130.out).2.2 | (with_reducible refine Kd.C_alloc ?_ _) | (with_reducible refine Kd.C_drewN ?_ _) | (with_reducible refine Kd.C_drew ?_))); (case side2 => exact (Kd.R_reads' HO130.out).2.1); rintro e w13 ⟨rfl, hb⟩; refine ⟨_, rfl, ?_⟩; have n0_ := Aside0.mk (Kd.R_below (by (with_reducible repeat (first | apply Kd.R_alloc | apply Kd.R_drewN | apply Kd.R_drew)); exact HO130.out) hb); have n1_ := Aside0.mk (below_step (by repeat (first | (with_reducible first | exact HB.out | apply below_alloc | apply pw_below_drewN | apply below_drew1) | exact HB.out)) hb); clear HO130; clear HB; have HO130 := n0_; have HB := n1_; clear n0_ n1_; (try clear hb); (try clear hb2); (try clear hk); (try clear hi)))
      go_ret
      exact ⟨by first | rfl | (simp [errW_none, errW_some] <;> rfl) | (simp [*, errW_none, errW_some] <;> rfl), by repeat (first | (with_reducible first | exact HB.out | apply below_alloc | apply pw_below_drewN | apply below_drew1) | exact HB.out)⟩
  · rw [if_neg c2] at H
    have c2b0 : (t132 == 0) = false := beq_eq_false_iff_ne.mpr c2
    have c2b1 : (t132 != 0) = true := bne_iff_ne.mpr c2
    obtain rfl := Option.some.inj H
    go_enter Try.func13, Try.ntmps13
    go_wp2_with (first | ((with_reducible refine gate_dst (N := 9) rfl ?_); (try (refine gate_guard (by rfl) ?_; dsimp only)); refine Kd.R_lit k37 _ 37 ?hg (N := 9) ?hd (xs := ([(⟨1, (⟨0, 0, 0, 0, 0⟩ : S24), 0⟩ : S37), (⟨0, (⟨32, 1, 1, 0, (-1)⟩ : S24), 0⟩ : S37), (⟨0, (⟨40, 0, 1, 0, 0⟩ : S24), 1⟩ : S37)] : List (S37))) (inner := [.int .i64 1, .int .i64 0, .int .i64 0, .int .i64 0, .int .i64 0, .int .i32 0, .int .i64 0, .int .i64 0, .int .i64 32, .int .i64 1, .int .i64 1, .int .i64 0, .int .i32 (-1), .int .i64 0, .int .i64 0, .int .i64 40, .int .i64 0, .int .i64 1, .int .i64 0, .int .i32 0, .int .i64 1]) (ok := fun _ => True) (okp := fun _ => True) ?hr ?hp (fun _ hk => hk) trivial (Below.refl _ _) (Nat.le_refl _) (by simp) ?_; (case hd => rfl); (case hg => rfl); (case hr => first | (go_simp; done) | (go_simp; rfl)); (case hp => exact (Reps.c7 (show Kd.M k37 _ _ _ (⟨1, (⟨0, 0, 0, 0, 0⟩ : S24), 0⟩ : S37) [.int .i64 1, .int .i64 0, .int .i64 0, .int .i64 0, .int .i64 0, .int .i32 0, .int .i64 0] from (k37_mkM _ _ _ (⟨1, (⟨0, 0, 0, 0, 0⟩ : S24), 0⟩ : S37) )) (Reps.c7 (show Kd.M k37 _ _ _ (⟨0, (⟨32, 1, 1, 0, (-1)⟩ : S24), 0⟩ : S37) [.int .i64 0, .int .i64 32, .int .i64 1, .int .i64 1, .int .i64 0, .int .i32 (-1), .int .i64 0] from (k37_mkM _ _ _ (⟨0, (⟨32, 1, 1, 0, (-1)⟩ : S24), 0⟩ : S37) )) (Reps.c7 (show Kd.M k37 _ _ _ (⟨0, (⟨40, 0, 1, 0, 0⟩ : S24), 1⟩ : S37) [.int .i64 0, .int .i64 40, .int .i64 0, .int .i64 1, .int .i64 0, .int .i32 0, .int .i64 1] from (k37_mkM _ _ _ (⟨0, (⟨40, 0, 1, 0, 0⟩ : S24), 1⟩ : S37) )) (Reps.none _ _))))); intro v129 w14 ho15 hb hg_ hnew_; clear hg_ hnew_; (first | rw [← Ny128.out] at ho15 | (simp only [Int.reduceToNat] at ho15; rw [← Ny128.out] at ho15)); have n0_ := Aside0.mk (Kd.R_lower ho15 (below_size (by repeat (first | (with_reducible first | exact HB.out | apply below_alloc | apply pw_below_drewN | apply below_drew1) | exact HB.out)))); have n1_ := Aside0.mk (below_step (by repeat (first | (with_reducible first | exact HB.out | apply below_alloc | apply pw_below_drewN | apply below_drew1) | exact HB.out)) hb); clear HB; have HO130 := n0_; have HB := n1_; clear n0_ n1_; clear hb ho15; obtain ⟨Ao16, co16, eo16⟩ := Kd.R_slice HO130.out; subst eo16) | ((with_reducible refine gate_callee (f := 8) rfl ?_); refine goesL_ (some 10) rfl rfl Try.func8 (by kernel_rfl) rfl #[.slice Ao16 y128.length co16] rfl (by (try simp only [List.map_toArray, List.map_cons, List.map_nil]); first | done | rfl | (simp only [List.length_drop, List.length_take]; rfl)) ?_; (with_reducible refine (asm_Assemble.calls _ _ y128 t131 t132 _ ?side1 ?side2 A1.out).mono ?_); (case side1 => repeat (first | exact (Kd.R_reads' HO130.out).2.2 | (with_reducible refine Kd.C_alloc ?_ _) | (with_reducible refine Kd.C_drewN ?_ _) | (with_reducible refine Kd.C_drew ?_))); (case side2 => exact (Kd.R_reads' HO130.out).2.1); rintro e w17 ⟨rfl, hb⟩; refine ⟨_, rfl, ?_⟩; have n0_ := Aside0.mk (Kd.R_below (by (with_reducible repeat (first | apply Kd.R_alloc | apply Kd.R_drewN | apply Kd.R_drew)); exact HO130.out) hb); have n1_ := Aside0.mk (below_step (by repeat (first | (with_reducible first | exact HB.out | apply below_alloc | apply pw_below_drewN | apply below_drew1) | exact HB.out)) hb); clear HO130; clear HB; have HO130 := n0_; have HB := n1_; clear n0_ n1_; (try clear hb); (try clear hb2); (try clear hk); (try clear hi)))
    go_ret
    exact ⟨by first | rfl | (simp [errW_none, errW_some] <;> rfl) | (simp [*, errW_none, errW_some] <;> rfl), by repeat (first | (with_reducible first | exact HB.out | apply below_alloc | apply pw_below_drewN | apply below_drew1) | exact HB.out)⟩


end Go.Proofs.Ytdhmnjoceeolcaa.GF
