-- PRINTED BY print.sh 35421559b90ae4d0a3588c463048766b98c2df88dd9212a6774a882060cdf62d: not written by this session
import Derived.Test.YtdbkbdfehbjlbaaPWordAlusx0
import Derived.Test.YtdbkbdfehbjlbaaPWordAlusx1
namespace Go.Proofs.Ytdbkbdfehbjlbaa.PWordAlus
open Go.RowKit Go.Proofs.YtdbkbdfehbjlbaaW.PrintWords Go.Proofs.YtdbkbdfehbjlbaaW.PrintLast Go.Proofs.YtdbkbdfehbjlbaaW.PrintMore
attribute [local go_sem] max2_int min2_int max_two min_two max_three min_three max_four min_four   -- for this text's walks alone
set_option linter.unusedVariables false
set_option linter.unusedSimpArgs false

/-! ### crucibleref01_Alu: function 8 -/
def crucibleref01_Alu.f (a0 : Int) (a1 : Int) (a2 : Int) : Option (Int × Int) := (crucibleref01_Traps.f a0).bind fun t110 => (if t110 = true then (if a2 = 0 then (some (0, 1)) else ((crucibleref01_divides.f a0 a1 a2).bind fun t111 => (some (t111, 0)))) else (if a0 = 1 then (some ((a1 + a2) % 4294967296, 0)) else (if a0 = 2 then (some ((a1 - a2) % 4294967296, 0)) else (if a0 = 3 then (some ((a1 * a2) % 4294967296, 0)) else (if a0 = 8 then (some (Go.bits .and .u32 a1 a2, 0)) else (if a0 = 9 then (some (Go.bits .or .u32 a1 a2, 0)) else (if a0 = 10 then (some (Go.bits .xor .u32 a1 a2, 0)) else (if a0 = 11 then (if 0 ≤ (IntKind.u64.wrap (Int.tmod a2 32)) then (some (shl .u32 a1 (IntKind.u64.wrap (Int.tmod a2 32)), 0)) else (none)) else (if a0 = 12 then (if 0 ≤ (IntKind.u64.wrap (Int.tmod a2 32)) then (some (shr .u32 a1 (IntKind.u64.wrap (Int.tmod a2 32)), 0)) else (none)) else (if a0 = 13 then (if 0 ≤ (IntKind.u64.wrap (Int.tmod a2 32)) then (some ((shr .i32 (wrap32 (a1)) (IntKind.u64.wrap (Int.tmod a2 32))) % 4294967296, 0)) else (none)) else (if a0 = 14 then ((crucibleref01_one.f (a1 == a2)).bind fun t112 => (some (t112, 0))) else (if a0 = 15 then ((crucibleref01_one.f (a1 != a2)).bind fun t113 => (some (t113, 0))) else (if a0 = 16 then ((crucibleref01_one.f (decide ((wrap32 (a1)) < (wrap32 (a2))))).bind fun t114 => (some (t114, 0))) else (if a0 = 17 then ((crucibleref01_one.f (decide (a1 < a2))).bind fun t115 => (some (t115, 0))) else (if a0 = 18 then ((crucibleref01_one.f (decide ((wrap32 (a1)) ≤ (wrap32 (a2))))).bind fun t116 => (some (t116, 0))) else (if a0 = 19 then ((crucibleref01_one.f (decide (a1 ≤ a2))).bind fun t117 => (some (t117, 0))) else (some (0, 4))))))))))))))))))
set_option maxHeartbeats 8000000 in
set_option maxRecDepth 100000 in
theorem crucibleref01_Alu.calls (a0 : Int) (a1 : Int) (a2 : Int) (r1 : Int) (r2 : Int) (w : World) (h : crucibleref01_Alu.f a0 a1 a2 = some (r1, r2)) :
    Calls Try.prog 8 #[.int .i64 a0, .int .u32 a1, .int .u32 a2] w fun e w' => e = .returned (.tuple #[.int .u32 r1, .int .i64 r2]) ∧ Drawn0 w w' := by
  have H : ((crucibleref01_Traps.f a0).bind fun t110 => (if t110 = true then (if a2 = 0 then (some (0, 1)) else ((crucibleref01_divides.f a0 a1 a2).bind fun t111 => (some (t111, 0)))) else (if a0 = 1 then (some ((a1 + a2) % 4294967296, 0)) else (if a0 = 2 then (some ((a1 - a2) % 4294967296, 0)) else (if a0 = 3 then (some ((a1 * a2) % 4294967296, 0)) else (if a0 = 8 then (some (Go.bits .and .u32 a1 a2, 0)) else (if a0 = 9 then (some (Go.bits .or .u32 a1 a2, 0)) else (if a0 = 10 then (some (Go.bits .xor .u32 a1 a2, 0)) else (if a0 = 11 then (if 0 ≤ (IntKind.u64.wrap (Int.tmod a2 32)) then (some (shl .u32 a1 (IntKind.u64.wrap (Int.tmod a2 32)), 0)) else (none)) else (if a0 = 12 then (if 0 ≤ (IntKind.u64.wrap (Int.tmod a2 32)) then (some (shr .u32 a1 (IntKind.u64.wrap (Int.tmod a2 32)), 0)) else (none)) else (if a0 = 13 then (if 0 ≤ (IntKind.u64.wrap (Int.tmod a2 32)) then (some ((shr .i32 (wrap32 (a1)) (IntKind.u64.wrap (Int.tmod a2 32))) % 4294967296, 0)) else (none)) else (if a0 = 14 then ((crucibleref01_one.f (a1 == a2)).bind fun t112 => (some (t112, 0))) else (if a0 = 15 then ((crucibleref01_one.f (a1 != a2)).bind fun t113 => (some (t113, 0))) else (if a0 = 16 then ((crucibleref01_one.f (decide ((wrap32 (a1)) < (wrap32 (a2))))).bind fun t114 => (some (t114, 0))) else (if a0 = 17 then ((crucibleref01_one.f (decide (a1 < a2))).bind fun t115 => (some (t115, 0))) else (if a0 = 18 then ((crucibleref01_one.f (decide ((wrap32 (a1)) ≤ (wrap32 (a2))))).bind fun t116 => (some (t116, 0))) else (if a0 = 19 then ((crucibleref01_one.f (decide (a1 ≤ a2))).bind fun t117 => (some (t117, 0))) else (some (0, 4))))))))))))))))))) = some (r1, r2) := h
  clear h
  replace H := Option.bind_eq_some_iff.mp H
  obtain ⟨t110, A40, H⟩ := H
  replace H : (if t110 = true then (if a2 = 0 then (some (0, 1)) else ((crucibleref01_divides.f a0 a1 a2).bind fun t111 => (some (t111, 0)))) else (if a0 = 1 then (some ((a1 + a2) % 4294967296, 0)) else (if a0 = 2 then (some ((a1 - a2) % 4294967296, 0)) else (if a0 = 3 then (some ((a1 * a2) % 4294967296, 0)) else (if a0 = 8 then (some (Go.bits .and .u32 a1 a2, 0)) else (if a0 = 9 then (some (Go.bits .or .u32 a1 a2, 0)) else (if a0 = 10 then (some (Go.bits .xor .u32 a1 a2, 0)) else (if a0 = 11 then (if 0 ≤ (IntKind.u64.wrap (Int.tmod a2 32)) then (some (shl .u32 a1 (IntKind.u64.wrap (Int.tmod a2 32)), 0)) else (none)) else (if a0 = 12 then (if 0 ≤ (IntKind.u64.wrap (Int.tmod a2 32)) then (some (shr .u32 a1 (IntKind.u64.wrap (Int.tmod a2 32)), 0)) else (none)) else (if a0 = 13 then (if 0 ≤ (IntKind.u64.wrap (Int.tmod a2 32)) then (some ((shr .i32 (wrap32 (a1)) (IntKind.u64.wrap (Int.tmod a2 32))) % 4294967296, 0)) else (none)) else (if a0 = 14 then ((crucibleref01_one.f (a1 == a2)).bind fun t112 => (some (t112, 0))) else (if a0 = 15 then ((crucibleref01_one.f (a1 != a2)).bind fun t113 => (some (t113, 0))) else (if a0 = 16 then ((crucibleref01_one.f (decide ((wrap32 (a1)) < (wrap32 (a2))))).bind fun t114 => (some (t114, 0))) else (if a0 = 17 then ((crucibleref01_one.f (decide (a1 < a2))).bind fun t115 => (some (t115, 0))) else (if a0 = 18 then ((crucibleref01_one.f (decide ((wrap32 (a1)) ≤ (wrap32 (a2))))).bind fun t116 => (some (t116, 0))) else (if a0 = 19 then ((crucibleref01_one.f (decide (a1 ≤ a2))).bind fun t117 => (some (t117, 0))) else (some (0, 4)))))))))))))))))) = some (r1, r2) := H
  have A4 := Aside0.mk A40
  clear A40
  by_cases c5 : t110 = true
  · subst c5
    have H1 : (if a2 = 0 then (some (0, 1)) else ((crucibleref01_divides.f a0 a1 a2).bind fun t111 => (some (t111, 0)))) = some (r1, r2) := by rw [if_pos rfl] at H; exact H
    clear H
    have H := H1
    clear H1
    by_cases c6 : a2 = 0
    · rw [if_pos c6] at H
      have c6b0 : (a2 == 0) = true := beq_iff_eq.mpr c6
      have c6b1 : (a2 != 0) = false := bne_eq_false_iff_eq.mpr c6
      clear c6
      simp only [Option.some.injEq, Prod.mk.injEq] at H
      obtain ⟨rfl, rfl⟩ := H
      go_enter Try.func8, Try.ntmps8
      go_wp2_with (first | ((with_reducible refine gate_callee (f := 19) rfl ?_); refine goesL_ (some 10) rfl rfl Try.func19 (by kernel_rfl) rfl #[.int .i64 a0] rfl (by (try simp only [List.map_toArray, List.map_cons, List.map_nil]); first | done | rfl | (simp only [List.length_drop, List.length_take]; rfl)) ?_; (with_reducible refine (crucibleref01_Traps.calls a0 true _ A4.out).mono ?_); rintro e w' ⟨rfl, ⟨nd, rfl⟩⟩; refine ⟨_, rfl, ?_⟩))
      go_ret2
      exact ⟨by first | rfl | (simp; done) | (simp [*]; done), by repeat (first | exact Drawn0.refl _ | apply Drawn0.step)⟩
    · rw [if_neg c6] at H
      have c6b0 : (a2 == 0) = false := beq_eq_false_iff_ne.mpr c6
      have c6b1 : (a2 != 0) = true := bne_iff_ne.mpr c6
      replace H := Option.bind_eq_some_iff.mp H
      obtain ⟨t111, A70, H⟩ := H
      replace H : (some (t111, 0)) = some (r1, r2) := H
      have A7 := Aside0.mk A70
      clear A70
      simp only [Option.some.injEq, Prod.mk.injEq] at H
      obtain ⟨rfl, rfl⟩ := H
      go_enter Try.func8, Try.ntmps8
      go_wp2_with (first | ((with_reducible refine gate_callee (f := 19) rfl ?_); refine goesL_ (some 10) rfl rfl Try.func19 (by kernel_rfl) rfl #[.int .i64 a0] rfl (by (try simp only [List.map_toArray, List.map_cons, List.map_nil]); first | done | rfl | (simp only [List.length_drop, List.length_take]; rfl)) ?_; (with_reducible refine (crucibleref01_Traps.calls a0 true _ A4.out).mono ?_); rintro e w' ⟨rfl, ⟨nd, rfl⟩⟩; refine ⟨_, rfl, ?_⟩) | ((with_reducible refine gate_callee (f := 22) rfl ?_); refine goesL_ (some 16) rfl rfl Try.func22 (by kernel_rfl) rfl #[.int .i64 a0, .int .u32 a1, .int .u32 a2] rfl (by (try simp only [List.map_toArray, List.map_cons, List.map_nil]); first | done | rfl | (simp only [List.length_drop, List.length_take]; rfl)) ?_; (with_reducible refine (crucibleref01_divides.calls a0 a1 a2 t111 _ A7.out).mono ?_); rintro e w' ⟨rfl, ⟨nd, rfl⟩⟩; refine ⟨_, rfl, ?_⟩))
      go_ret2
      exact ⟨by first | rfl | (simp; done) | (simp [*]; done), by repeat (first | exact Drawn0.refl _ | apply Drawn0.step)⟩
  · replace c5 := Bool.eq_false_iff.mpr c5
    subst c5
    have H1 : (if a0 = 1 then (some ((a1 + a2) % 4294967296, 0)) else (if a0 = 2 then (some ((a1 - a2) % 4294967296, 0)) else (if a0 = 3 then (some ((a1 * a2) % 4294967296, 0)) else (if a0 = 8 then (some (Go.bits .and .u32 a1 a2, 0)) else (if a0 = 9 then (some (Go.bits .or .u32 a1 a2, 0)) else (if a0 = 10 then (some (Go.bits .xor .u32 a1 a2, 0)) else (if a0 = 11 then (if 0 ≤ (IntKind.u64.wrap (Int.tmod a2 32)) then (some (shl .u32 a1 (IntKind.u64.wrap (Int.tmod a2 32)), 0)) else (none)) else (if a0 = 12 then (if 0 ≤ (IntKind.u64.wrap (Int.tmod a2 32)) then (some (shr .u32 a1 (IntKind.u64.wrap (Int.tmod a2 32)), 0)) else (none)) else (if a0 = 13 then (if 0 ≤ (IntKind.u64.wrap (Int.tmod a2 32)) then (some ((shr .i32 (wrap32 (a1)) (IntKind.u64.wrap (Int.tmod a2 32))) % 4294967296, 0)) else (none)) else (if a0 = 14 then ((crucibleref01_one.f (a1 == a2)).bind fun t112 => (some (t112, 0))) else (if a0 = 15 then ((crucibleref01_one.f (a1 != a2)).bind fun t113 => (some (t113, 0))) else (if a0 = 16 then ((crucibleref01_one.f (decide ((wrap32 (a1)) < (wrap32 (a2))))).bind fun t114 => (some (t114, 0))) else (if a0 = 17 then ((crucibleref01_one.f (decide (a1 < a2))).bind fun t115 => (some (t115, 0))) else (if a0 = 18 then ((crucibleref01_one.f (decide ((wrap32 (a1)) ≤ (wrap32 (a2))))).bind fun t116 => (some (t116, 0))) else (if a0 = 19 then ((crucibleref01_one.f (decide (a1 ≤ a2))).bind fun t117 => (some (t117, 0))) else (some (0, 4))))))))))))))))) = some (r1, r2) := by rw [if_neg (show ¬ (false = true) by decide)] at H; exact H
    clear H
    have H := H1
    clear H1
    by_cases c8 : a0 = 1
    · rw [if_pos c8] at H
      have c8b0 : (a0 == 1) = true := beq_iff_eq.mpr c8
      have c8b1 : (a0 != 1) = false := bne_eq_false_iff_eq.mpr c8
      clear c8
      simp only [Option.some.injEq, Prod.mk.injEq] at H
      obtain ⟨rfl, rfl⟩ := H
      go_enter Try.func8, Try.ntmps8
      go_wp2_with (first | ((with_reducible refine gate_callee (f := 19) rfl ?_); refine goesL_ (some 10) rfl rfl Try.func19 (by kernel_rfl) rfl #[.int .i64 a0] rfl (by (try simp only [List.map_toArray, List.map_cons, List.map_nil]); first | done | rfl | (simp only [List.length_drop, List.length_take]; rfl)) ?_; (with_reducible refine (crucibleref01_Traps.calls a0 false _ A4.out).mono ?_); rintro e w' ⟨rfl, ⟨nd, rfl⟩⟩; refine ⟨_, rfl, ?_⟩))
      go_ret2
      exact ⟨by first | rfl | (simp; done) | (simp [*]; done), by repeat (first | exact Drawn0.refl _ | apply Drawn0.step)⟩
    · rw [if_neg c8] at H
      have c8b0 : (a0 == 1) = false := beq_eq_false_iff_ne.mpr c8
      have c8b1 : (a0 != 1) = true := bne_iff_ne.mpr c8
      by_cases c9 : a0 = 2
      · rw [if_pos c9] at H
        have c9b0 : (a0 == 2) = true := beq_iff_eq.mpr c9
        have c9b1 : (a0 != 2) = false := bne_eq_false_iff_eq.mpr c9
        clear c9
        simp only [Option.some.injEq, Prod.mk.injEq] at H
        obtain ⟨rfl, rfl⟩ := H
        go_enter Try.func8, Try.ntmps8
        go_wp2_with (first | ((with_reducible refine gate_callee (f := 19) rfl ?_); refine goesL_ (some 10) rfl rfl Try.func19 (by kernel_rfl) rfl #[.int .i64 a0] rfl (by (try simp only [List.map_toArray, List.map_cons, List.map_nil]); first | done | rfl | (simp only [List.length_drop, List.length_take]; rfl)) ?_; (with_reducible refine (crucibleref01_Traps.calls a0 false _ A4.out).mono ?_); rintro e w' ⟨rfl, ⟨nd, rfl⟩⟩; refine ⟨_, rfl, ?_⟩))
        go_ret2
        exact ⟨by first | rfl | (simp; done) | (simp [*]; done), by repeat (first | exact Drawn0.refl _ | apply Drawn0.step)⟩
      · rw [if_neg c9] at H
        have c9b0 : (a0 == 2) = false := beq_eq_false_iff_ne.mpr c9
        have c9b1 : (a0 != 2) = true := bne_iff_ne.mpr c9
        by_cases c10 : a0 = 3
        · rw [if_pos c10] at H
          have c10b0 : (a0 == 3) = true := beq_iff_eq.mpr c10
          have c10b1 : (a0 != 3) = false := bne_eq_false_iff_eq.mpr c10
          clear c10
          simp only [Option.some.injEq, Prod.mk.injEq] at H
          obtain ⟨rfl, rfl⟩ := H
          go_enter Try.func8, Try.ntmps8
          go_wp2_with (first | ((with_reducible refine gate_callee (f := 19) rfl ?_); refine goesL_ (some 10) rfl rfl Try.func19 (by kernel_rfl) rfl #[.int .i64 a0] rfl (by (try simp only [List.map_toArray, List.map_cons, List.map_nil]); first | done | rfl | (simp only [List.length_drop, List.length_take]; rfl)) ?_; (with_reducible refine (crucibleref01_Traps.calls a0 false _ A4.out).mono ?_); rintro e w' ⟨rfl, ⟨nd, rfl⟩⟩; refine ⟨_, rfl, ?_⟩))
          go_ret2
          exact ⟨by first | rfl | (simp; done) | (simp [*]; done), by repeat (first | exact Drawn0.refl _ | apply Drawn0.step)⟩
        · rw [if_neg c10] at H
          have c10b0 : (a0 == 3) = false := beq_eq_false_iff_ne.mpr c10
          have c10b1 : (a0 != 3) = true := bne_iff_ne.mpr c10
          by_cases c11 : a0 = 8
          · rw [if_pos c11] at H
            have c11b0 : (a0 == 8) = true := beq_iff_eq.mpr c11
            have c11b1 : (a0 != 8) = false := bne_eq_false_iff_eq.mpr c11
            clear c11
            simp only [Option.some.injEq, Prod.mk.injEq] at H
            obtain ⟨rfl, rfl⟩ := H
            go_enter Try.func8, Try.ntmps8
            go_wp2_with (first | ((with_reducible refine gate_callee (f := 19) rfl ?_); refine goesL_ (some 10) rfl rfl Try.func19 (by kernel_rfl) rfl #[.int .i64 a0] rfl (by (try simp only [List.map_toArray, List.map_cons, List.map_nil]); first | done | rfl | (simp only [List.length_drop, List.length_take]; rfl)) ?_; (with_reducible refine (crucibleref01_Traps.calls a0 false _ A4.out).mono ?_); rintro e w' ⟨rfl, ⟨nd, rfl⟩⟩; refine ⟨_, rfl, ?_⟩))
            go_ret2
            exact ⟨by first | rfl | (simp; done) | (simp [*]; done), by repeat (first | exact Drawn0.refl _ | apply Drawn0.step)⟩
          · rw [if_neg c11] at H
            have c11b0 : (a0 == 8) = false := beq_eq_false_iff_ne.mpr c11
            have c11b1 : (a0 != 8) = true := bne_iff_ne.mpr c11
            by_cases c12 : a0 = 9
            · rw [if_pos c12] at H
              have c12b0 : (a0 == 9) = true := beq_iff_eq.mpr c12
              have c12b1 : (a0 != 9) = false := bne_eq_false_iff_eq.mpr c12
              clear c12
              simp only [Option.some.injEq, Prod.mk.injEq] at H
              obtain ⟨rfl, rfl⟩ := H
              go_enter Try.func8, Try.ntmps8
              go_wp2_with (first | ((with_reducible refine gate_callee (f := 19) rfl ?_); refine goesL_ (some 10) rfl rfl Try.func19 (by kernel_rfl) rfl #[.int .i64 a0] rfl (by (try simp only [List.map_toArray, List.map_cons, List.map_nil]); first | done | rfl | (simp only [List.length_drop, List.length_take]; rfl)) ?_; (with_reducible refine (crucibleref01_Traps.calls a0 false _ A4.out).mono ?_); rintro e w' ⟨rfl, ⟨nd, rfl⟩⟩; refine ⟨_, rfl, ?_⟩))
              go_ret2
              exact ⟨by first | rfl | (simp; done) | (simp [*]; done), by repeat (first | exact Drawn0.refl _ | apply Drawn0.step)⟩
            · rw [if_neg c12] at H
              have c12b0 : (a0 == 9) = false := beq_eq_false_iff_ne.mpr c12
              have c12b1 : (a0 != 9) = true := bne_iff_ne.mpr c12
              by_cases c13 : a0 = 10
              · rw [if_pos c13] at H
                have c13b0 : (a0 == 10) = true := beq_iff_eq.mpr c13
                have c13b1 : (a0 != 10) = false := bne_eq_false_iff_eq.mpr c13
                clear c13
                simp only [Option.some.injEq, Prod.mk.injEq] at H
                obtain ⟨rfl, rfl⟩ := H
                go_enter Try.func8, Try.ntmps8
                go_wp2_with (first | ((with_reducible refine gate_callee (f := 19) rfl ?_); refine goesL_ (some 10) rfl rfl Try.func19 (by kernel_rfl) rfl #[.int .i64 a0] rfl (by (try simp only [List.map_toArray, List.map_cons, List.map_nil]); first | done | rfl | (simp only [List.length_drop, List.length_take]; rfl)) ?_; (with_reducible refine (crucibleref01_Traps.calls a0 false _ A4.out).mono ?_); rintro e w' ⟨rfl, ⟨nd, rfl⟩⟩; refine ⟨_, rfl, ?_⟩))
                go_ret2
                exact ⟨by first | rfl | (simp; done) | (simp [*]; done), by repeat (first | exact Drawn0.refl _ | apply Drawn0.step)⟩
              · rw [if_neg c13] at H
                have c13b0 : (a0 == 10) = false := beq_eq_false_iff_ne.mpr c13
                have c13b1 : (a0 != 10) = true := bne_iff_ne.mpr c13
                by_cases c14 : a0 = 11
                · rw [if_pos c14] at H
                  have c14b0 : (a0 == 11) = true := beq_iff_eq.mpr c14
                  have c14b1 : (a0 != 11) = false := bne_eq_false_iff_eq.mpr c14
                  clear c14
                  obtain ⟨ji15, hji15⟩ : ∃ j_ : Int, (IntKind.u64.wrap (Int.tmod a2 32)) = j_ := ⟨_, rfl⟩
                  replace H : (if 0 ≤ (ji15) then (some (shl .u32 a1 (ji15), 0)) else (none)) = some (r1, r2) := by first | (rw [hji15] at H; exact H) | (simp only [hji15] at H ⊢; exact H)
                  (try rw [hji15] at A4)
                  by_cases c16 : 0 ≤ (ji15)
                  · rw [if_pos c16] at H
                    have c16b0 := eq_true c16
                    have c16b1 : decide (0 ≤ (ji15)) = true := decide_eq_true c16
                    clear c16
                    obtain ⟨ji17, hji17⟩ : ∃ j_ : Int, (shl .u32 a1 (ji15)) = j_ := ⟨_, rfl⟩
                    replace H : (some (ji17, 0)) = some (r1, r2) := by first | (rw [hji17] at H; exact H) | (simp only [hji17] at H ⊢; exact H)
                    (try rw [hji17] at A4)
                    have hji17_ : (IntKind.u32.wrap (a1 * 2 ^ min (ji15).toNat 32)) = ji17 := hji17
                    have hji17z : (ji15) ≤ 32 → (IntKind.u32.wrap (a1 * 2 ^ (ji15).toNat)) = ji17 := shl_small hji17
                    simp only [Option.some.injEq, Prod.mk.injEq] at H
                    obtain ⟨rfl, rfl⟩ := H
                    go_enter Try.func8, Try.ntmps8
                    go_wp2_with (first | ((with_reducible refine gate_callee (f := 19) rfl ?_); refine goesL_ (some 10) rfl rfl Try.func19 (by kernel_rfl) rfl #[.int .i64 a0] rfl (by (try simp only [List.map_toArray, List.map_cons, List.map_nil]); first | done | rfl | (simp only [List.length_drop, List.length_take]; rfl)) ?_; (with_reducible refine (crucibleref01_Traps.calls a0 false _ A4.out).mono ?_); rintro e w' ⟨rfl, ⟨nd, rfl⟩⟩; refine ⟨_, rfl, ?_⟩))
                    go_ret2
                    exact ⟨by first | rfl | (simp; done) | (simp only [← hji15, ← hji17] <;> (first | rfl | simp)) | (simp [*]; done), by repeat (first | exact Drawn0.refl _ | apply Drawn0.step)⟩
                  · rw [if_neg c16] at H
                    exact absurd H (by simp)
                · rw [if_neg c14] at H
                  have c14b0 : (a0 == 11) = false := beq_eq_false_iff_ne.mpr c14
                  have c14b1 : (a0 != 11) = true := bne_iff_ne.mpr c14
                  by_cases c18 : a0 = 12
                  · rw [if_pos c18] at H
                    have c18b0 : (a0 == 12) = true := beq_iff_eq.mpr c18
                    have c18b1 : (a0 != 12) = false := bne_eq_false_iff_eq.mpr c18
                    clear c18
                    obtain ⟨ji19, hji19⟩ : ∃ j_ : Int, (IntKind.u64.wrap (Int.tmod a2 32)) = j_ := ⟨_, rfl⟩
                    replace H : (if 0 ≤ (ji19) then (some (shr .u32 a1 (ji19), 0)) else (none)) = some (r1, r2) := by first | (rw [hji19] at H; exact H) | (simp only [hji19] at H ⊢; exact H)
                    (try rw [hji19] at A4)
                    by_cases c20 : 0 ≤ (ji19)
                    · rw [if_pos c20] at H
                      have c20b0 := eq_true c20
                      have c20b1 : decide (0 ≤ (ji19)) = true := decide_eq_true c20
                      clear c20
                      obtain ⟨ji21, hji21⟩ : ∃ j_ : Int, (shr .u32 a1 (ji19)) = j_ := ⟨_, rfl⟩
                      replace H : (some (ji21, 0)) = some (r1, r2) := by first | (rw [hji21] at H; exact H) | (simp only [hji21] at H ⊢; exact H)
                      (try rw [hji21] at A4)
                      have hji21_ : (a1 / 2 ^ min (ji19).toNat 32) = ji21 := hji21
                      have hji21z : (ji19) ≤ 32 → (a1 / 2 ^ (ji19).toNat) = ji21 := shr_small hji21
                      simp only [Option.some.injEq, Prod.mk.injEq] at H
                      obtain ⟨rfl, rfl⟩ := H
                      go_enter Try.func8, Try.ntmps8
                      go_wp2_with (first | ((with_reducible refine gate_callee (f := 19) rfl ?_); refine goesL_ (some 10) rfl rfl Try.func19 (by kernel_rfl) rfl #[.int .i64 a0] rfl (by (try simp only [List.map_toArray, List.map_cons, List.map_nil]); first | done | rfl | (simp only [List.length_drop, List.length_take]; rfl)) ?_; (with_reducible refine (crucibleref01_Traps.calls a0 false _ A4.out).mono ?_); rintro e w' ⟨rfl, ⟨nd, rfl⟩⟩; refine ⟨_, rfl, ?_⟩))
                      go_ret2
                      exact ⟨by first | rfl | (simp; done) | (simp only [← hji19, ← hji21] <;> (first | rfl | simp)) | (simp [*]; done), by repeat (first | exact Drawn0.refl _ | apply Drawn0.step)⟩
                    · rw [if_neg c20] at H
                      exact absurd H (by simp)
                  · rw [if_neg c18] at H
                    have c18b0 : (a0 == 12) = false := beq_eq_false_iff_ne.mpr c18
                    have c18b1 : (a0 != 12) = true := bne_iff_ne.mpr c18
                    by_cases c22 : a0 = 13
                    · rw [if_pos c22] at H
                      have c22b0 : (a0 == 13) = true := beq_iff_eq.mpr c22
                      have c22b1 : (a0 != 13) = false := bne_eq_false_iff_eq.mpr c22
                      clear c22
                      obtain ⟨ji23, hji23⟩ : ∃ j_ : Int, (IntKind.u64.wrap (Int.tmod a2 32)) = j_ := ⟨_, rfl⟩
                      replace H : (if 0 ≤ (ji23) then (some ((shr .i32 (wrap32 (a1)) (ji23)) % 4294967296, 0)) else (none)) = some (r1, r2) := by first | (rw [hji23] at H; exact H) | (simp only [hji23] at H ⊢; exact H)
                      (try rw [hji23] at A4)
                      by_cases c24 : 0 ≤ (ji23)
                      · rw [if_pos c24] at H
                        have c24b0 := eq_true c24
                        have c24b1 : decide (0 ≤ (ji23)) = true := decide_eq_true c24
                        clear c24
                        obtain ⟨ji25, hji25⟩ : ∃ j_ : Int, (shr .i32 (wrap32 (a1)) (ji23)) = j_ := ⟨_, rfl⟩
                        replace H : (some ((ji25) % 4294967296, 0)) = some (r1, r2) := by first | (rw [hji25] at H; exact H) | (simp only [hji25] at H ⊢; exact H)
                        (try rw [hji25] at A4)
                        have hji25_ : ((wrap32 (a1)) / 2 ^ min (ji23).toNat 32) = ji25 := hji25
                        have hji25z : (ji23) ≤ 32 → ((wrap32 (a1)) / 2 ^ (ji23).toNat) = ji25 := shr_small hji25
                        simp only [Option.some.injEq, Prod.mk.injEq] at H
                        obtain ⟨rfl, rfl⟩ := H
                        go_enter Try.func8, Try.ntmps8
                        go_wp2_with (first | ((with_reducible refine gate_callee (f := 19) rfl ?_); refine goesL_ (some 10) rfl rfl Try.func19 (by kernel_rfl) rfl #[.int .i64 a0] rfl (by (try simp only [List.map_toArray, List.map_cons, List.map_nil]); first | done | rfl | (simp only [List.length_drop, List.length_take]; rfl)) ?_; (with_reducible refine (crucibleref01_Traps.calls a0 false _ A4.out).mono ?_); rintro e w' ⟨rfl, ⟨nd, rfl⟩⟩; refine ⟨_, rfl, ?_⟩))
                        go_ret2
                        exact ⟨by first | rfl | (simp; done) | (simp only [← hji23, ← hji25] <;> (first | rfl | simp)) | (simp [*]; done), by repeat (first | exact Drawn0.refl _ | apply Drawn0.step)⟩
                      · rw [if_neg c24] at H
                        exact absurd H (by simp)
                    · rw [if_neg c22] at H
                      have c22b0 : (a0 == 13) = false := beq_eq_false_iff_ne.mpr c22
                      have c22b1 : (a0 != 13) = true := bne_iff_ne.mpr c22
                      by_cases c26 : a0 = 14
                      · rw [if_pos c26] at H
                        have c26b0 : (a0 == 14) = true := beq_iff_eq.mpr c26
                        have c26b1 : (a0 != 14) = false := bne_eq_false_iff_eq.mpr c26
                        clear c26
                        replace H := Option.bind_eq_some_iff.mp H
                        obtain ⟨t112, A270, H⟩ := H
                        replace H : (some (t112, 0)) = some (r1, r2) := H
                        have A27 := Aside0.mk A270
                        clear A270
                        simp only [Option.some.injEq, Prod.mk.injEq] at H
                        obtain ⟨rfl, rfl⟩ := H
                        go_enter Try.func8, Try.ntmps8
                        go_wp2_with (first | ((with_reducible refine gate_callee (f := 19) rfl ?_); refine goesL_ (some 10) rfl rfl Try.func19 (by kernel_rfl) rfl #[.int .i64 a0] rfl (by (try simp only [List.map_toArray, List.map_cons, List.map_nil]); first | done | rfl | (simp only [List.length_drop, List.length_take]; rfl)) ?_; (with_reducible refine (crucibleref01_Traps.calls a0 false _ A4.out).mono ?_); rintro e w' ⟨rfl, ⟨nd, rfl⟩⟩; refine ⟨_, rfl, ?_⟩) | ((with_reducible refine gate_callee (f := 23) rfl ?_); refine goesL_ (some 73) rfl rfl Try.func23 (by kernel_rfl) rfl #[.bool (a1 == a2)] rfl (by (try simp only [List.map_toArray, List.map_cons, List.map_nil]); first | done | rfl | (simp only [List.length_drop, List.length_take]; rfl)) ?_; (with_reducible refine (crucibleref01_one.calls (a1 == a2) t112 _ A27.out).mono ?_); rintro e w' ⟨rfl, ⟨nd, rfl⟩⟩; refine ⟨_, rfl, ?_⟩))
                        go_ret2
                        exact ⟨by first | rfl | (simp; done) | (simp [*]; done), by repeat (first | exact Drawn0.refl _ | apply Drawn0.step)⟩
                      · rw [if_neg c26] at H
                        have c26b0 : (a0 == 14) = false := beq_eq_false_iff_ne.mpr c26
                        have c26b1 : (a0 != 14) = true := bne_iff_ne.mpr c26
                        by_cases c28 : a0 = 15
                        · rw [if_pos c28] at H
                          have c28b0 : (a0 == 15) = true := beq_iff_eq.mpr c28
                          have c28b1 : (a0 != 15) = false := bne_eq_false_iff_eq.mpr c28
                          clear c28
                          replace H := Option.bind_eq_some_iff.mp H
                          obtain ⟨t113, A290, H⟩ := H
                          replace H : (some (t113, 0)) = some (r1, r2) := H
                          have A29 := Aside0.mk A290
                          clear A290
                          simp only [Option.some.injEq, Prod.mk.injEq] at H
                          obtain ⟨rfl, rfl⟩ := H
                          go_enter Try.func8, Try.ntmps8
                          go_wp2_with (first | ((with_reducible refine gate_callee (f := 19) rfl ?_); refine goesL_ (some 10) rfl rfl Try.func19 (by kernel_rfl) rfl #[.int .i64 a0] rfl (by (try simp only [List.map_toArray, List.map_cons, List.map_nil]); first | done | rfl | (simp only [List.length_drop, List.length_take]; rfl)) ?_; (with_reducible refine (crucibleref01_Traps.calls a0 false _ A4.out).mono ?_); rintro e w' ⟨rfl, ⟨nd, rfl⟩⟩; refine ⟨_, rfl, ?_⟩) | ((with_reducible refine gate_callee (f := 23) rfl ?_); refine goesL_ (some 79) rfl rfl Try.func23 (by kernel_rfl) rfl #[.bool (a1 != a2)] rfl (by (try simp only [List.map_toArray, List.map_cons, List.map_nil]); first | done | rfl | (simp only [List.length_drop, List.length_take]; rfl)) ?_; (with_reducible refine (crucibleref01_one.calls (a1 != a2) t113 _ A29.out).mono ?_); rintro e w' ⟨rfl, ⟨nd, rfl⟩⟩; refine ⟨_, rfl, ?_⟩))
                          go_ret2
                          exact ⟨by first | rfl | (simp; done) | (simp [*]; done), by repeat (first | exact Drawn0.refl _ | apply Drawn0.step)⟩
                        · rw [if_neg c28] at H
                          have c28b0 : (a0 == 15) = false := beq_eq_false_iff_ne.mpr c28
                          have c28b1 : (a0 != 15) = true := bne_iff_ne.mpr c28
                          by_cases c30 : a0 = 16
                          · rw [if_pos c30] at H
                            have c30b0 : (a0 == 16) = true := beq_iff_eq.mpr c30
                            have c30b1 : (a0 != 16) = false := bne_eq_false_iff_eq.mpr c30
                            clear c30
                            replace H := Option.bind_eq_some_iff.mp H
                            obtain ⟨t114, A310, H⟩ := H
                            replace H : (some (t114, 0)) = some (r1, r2) := H
                            have A31 := Aside0.mk A310
                            clear A310
                            simp only [Option.some.injEq, Prod.mk.injEq] at H
                            obtain ⟨rfl, rfl⟩ := H
                            go_enter Try.func8, Try.ntmps8
                            go_wp2_with (first | ((with_reducible refine gate_callee (f := 19) rfl ?_); refine goesL_ (some 10) rfl rfl Try.func19 (by kernel_rfl) rfl #[.int .i64 a0] rfl (by (try simp only [List.map_toArray, List.map_cons, List.map_nil]); first | done | rfl | (simp only [List.length_drop, List.length_take]; rfl)) ?_; (with_reducible refine (crucibleref01_Traps.calls a0 false _ A4.out).mono ?_); rintro e w' ⟨rfl, ⟨nd, rfl⟩⟩; refine ⟨_, rfl, ?_⟩) | ((with_reducible refine gate_callee (f := 23) rfl ?_); refine goesL_ (some 87) rfl rfl Try.func23 (by kernel_rfl) rfl #[.bool (decide ((wrap32 (a1)) < (wrap32 (a2))))] rfl (by (try simp only [List.map_toArray, List.map_cons, List.map_nil]); first | done | rfl | (simp only [List.length_drop, List.length_take]; rfl)) ?_; (with_reducible refine (crucibleref01_one.calls (decide ((wrap32 (a1)) < (wrap32 (a2)))) t114 _ A31.out).mono ?_); rintro e w' ⟨rfl, ⟨nd, rfl⟩⟩; refine ⟨_, rfl, ?_⟩))
                            go_ret2
                            exact ⟨by first | rfl | (simp; done) | (simp [*]; done), by repeat (first | exact Drawn0.refl _ | apply Drawn0.step)⟩
                          · rw [if_neg c30] at H
                            have c30b0 : (a0 == 16) = false := beq_eq_false_iff_ne.mpr c30
                            have c30b1 : (a0 != 16) = true := bne_iff_ne.mpr c30
                            by_cases c32 : a0 = 17
                            · rw [if_pos c32] at H
                              have c32b0 : (a0 == 17) = true := beq_iff_eq.mpr c32
                              have c32b1 : (a0 != 17) = false := bne_eq_false_iff_eq.mpr c32
                              clear c32
                              replace H := Option.bind_eq_some_iff.mp H
                              obtain ⟨t115, A330, H⟩ := H
                              replace H : (some (t115, 0)) = some (r1, r2) := H
                              have A33 := Aside0.mk A330
                              clear A330
                              simp only [Option.some.injEq, Prod.mk.injEq] at H
                              obtain ⟨rfl, rfl⟩ := H
                              go_enter Try.func8, Try.ntmps8
                              go_wp2_with (first | ((with_reducible refine gate_callee (f := 19) rfl ?_); refine goesL_ (some 10) rfl rfl Try.func19 (by kernel_rfl) rfl #[.int .i64 a0] rfl (by (try simp only [List.map_toArray, List.map_cons, List.map_nil]); first | done | rfl | (simp only [List.length_drop, List.length_take]; rfl)) ?_; (with_reducible refine (crucibleref01_Traps.calls a0 false _ A4.out).mono ?_); rintro e w' ⟨rfl, ⟨nd, rfl⟩⟩; refine ⟨_, rfl, ?_⟩) | ((with_reducible refine gate_callee (f := 23) rfl ?_); refine goesL_ (some 93) rfl rfl Try.func23 (by kernel_rfl) rfl #[.bool (decide (a1 < a2))] rfl (by (try simp only [List.map_toArray, List.map_cons, List.map_nil]); first | done | rfl | (simp only [List.length_drop, List.length_take]; rfl)) ?_; (with_reducible refine (crucibleref01_one.calls (decide (a1 < a2)) t115 _ A33.out).mono ?_); rintro e w' ⟨rfl, ⟨nd, rfl⟩⟩; refine ⟨_, rfl, ?_⟩))
                              go_ret2
                              exact ⟨by first | rfl | (simp; done) | (simp [*]; done), by repeat (first | exact Drawn0.refl _ | apply Drawn0.step)⟩
                            · rw [if_neg c32] at H
                              have c32b0 : (a0 == 17) = false := beq_eq_false_iff_ne.mpr c32
                              have c32b1 : (a0 != 17) = true := bne_iff_ne.mpr c32
                              by_cases c34 : a0 = 18
                              · rw [if_pos c34] at H
                                have c34b0 : (a0 == 18) = true := beq_iff_eq.mpr c34
                                have c34b1 : (a0 != 18) = false := bne_eq_false_iff_eq.mpr c34
                                clear c34
                                replace H := Option.bind_eq_some_iff.mp H
                                obtain ⟨t116, A350, H⟩ := H
                                replace H : (some (t116, 0)) = some (r1, r2) := H
                                have A35 := Aside0.mk A350
                                clear A350
                                simp only [Option.some.injEq, Prod.mk.injEq] at H
                                obtain ⟨rfl, rfl⟩ := H
                                go_enter Try.func8, Try.ntmps8
                                go_wp2_with (first | ((with_reducible refine gate_callee (f := 19) rfl ?_); refine goesL_ (some 10) rfl rfl Try.func19 (by kernel_rfl) rfl #[.int .i64 a0] rfl (by (try simp only [List.map_toArray, List.map_cons, List.map_nil]); first | done | rfl | (simp only [List.length_drop, List.length_take]; rfl)) ?_; (with_reducible refine (crucibleref01_Traps.calls a0 false _ A4.out).mono ?_); rintro e w' ⟨rfl, ⟨nd, rfl⟩⟩; refine ⟨_, rfl, ?_⟩) | ((with_reducible refine gate_callee (f := 23) rfl ?_); refine goesL_ (some 101) rfl rfl Try.func23 (by kernel_rfl) rfl #[.bool (decide ((wrap32 (a1)) ≤ (wrap32 (a2))))] rfl (by (try simp only [List.map_toArray, List.map_cons, List.map_nil]); first | done | rfl | (simp only [List.length_drop, List.length_take]; rfl)) ?_; (with_reducible refine (crucibleref01_one.calls (decide ((wrap32 (a1)) ≤ (wrap32 (a2)))) t116 _ A35.out).mono ?_); rintro e w' ⟨rfl, ⟨nd, rfl⟩⟩; refine ⟨_, rfl, ?_⟩))
                                go_ret2
                                exact ⟨by first | rfl | (simp; done) | (simp [*]; done), by repeat (first | exact Drawn0.refl _ | apply Drawn0.step)⟩
                              · rw [if_neg c34] at H
                                have c34b0 : (a0 == 18) = false := beq_eq_false_iff_ne.mpr c34
                                have c34b1 : (a0 != 18) = true := bne_iff_ne.mpr c34
                                by_cases c36 : a0 = 19
                                · rw [if_pos c36] at H
                                  have c36b0 : (a0 == 19) = true := beq_iff_eq.mpr c36
                                  have c36b1 : (a0 != 19) = false := bne_eq_false_iff_eq.mpr c36
                                  clear c36
                                  replace H := Option.bind_eq_some_iff.mp H
                                  obtain ⟨t117, A370, H⟩ := H
                                  replace H : (some (t117, 0)) = some (r1, r2) := H
                                  have A37 := Aside0.mk A370
                                  clear A370
                                  simp only [Option.some.injEq, Prod.mk.injEq] at H
                                  obtain ⟨rfl, rfl⟩ := H
                                  go_enter Try.func8, Try.ntmps8
                                  go_wp2_with (first | ((with_reducible refine gate_callee (f := 19) rfl ?_); refine goesL_ (some 10) rfl rfl Try.func19 (by kernel_rfl) rfl #[.int .i64 a0] rfl (by (try simp only [List.map_toArray, List.map_cons, List.map_nil]); first | done | rfl | (simp only [List.length_drop, List.length_take]; rfl)) ?_; (with_reducible refine (crucibleref01_Traps.calls a0 false _ A4.out).mono ?_); rintro e w' ⟨rfl, ⟨nd, rfl⟩⟩; refine ⟨_, rfl, ?_⟩) | ((with_reducible refine gate_callee (f := 23) rfl ?_); refine goesL_ (some 107) rfl rfl Try.func23 (by kernel_rfl) rfl #[.bool (decide (a1 ≤ a2))] rfl (by (try simp only [List.map_toArray, List.map_cons, List.map_nil]); first | done | rfl | (simp only [List.length_drop, List.length_take]; rfl)) ?_; (with_reducible refine (crucibleref01_one.calls (decide (a1 ≤ a2)) t117 _ A37.out).mono ?_); rintro e w' ⟨rfl, ⟨nd, rfl⟩⟩; refine ⟨_, rfl, ?_⟩))
                                  go_ret2
                                  exact ⟨by first | rfl | (simp; done) | (simp [*]; done), by repeat (first | exact Drawn0.refl _ | apply Drawn0.step)⟩
                                · rw [if_neg c36] at H
                                  have c36b0 : (a0 == 19) = false := beq_eq_false_iff_ne.mpr c36
                                  have c36b1 : (a0 != 19) = true := bne_iff_ne.mpr c36
                                  simp only [Option.some.injEq, Prod.mk.injEq] at H
                                  obtain ⟨rfl, rfl⟩ := H
                                  go_enter Try.func8, Try.ntmps8
                                  go_wp2_with (first | ((with_reducible refine gate_callee (f := 19) rfl ?_); refine goesL_ (some 10) rfl rfl Try.func19 (by kernel_rfl) rfl #[.int .i64 a0] rfl (by (try simp only [List.map_toArray, List.map_cons, List.map_nil]); first | done | rfl | (simp only [List.length_drop, List.length_take]; rfl)) ?_; (with_reducible refine (crucibleref01_Traps.calls a0 false _ A4.out).mono ?_); rintro e w' ⟨rfl, ⟨nd, rfl⟩⟩; refine ⟨_, rfl, ?_⟩))
                                  go_ret2
                                  exact ⟨by first | rfl | (simp; done) | (simp [*]; done), by repeat (first | exact Drawn0.refl _ | apply Drawn0.step)⟩

/-! ### cruciblelaw01_awake: function 9 -/
def cruciblelaw01_awake.f (k : Nat)  : Option (Bool) := (word_Alu.f k 4 4294967289 2).bind fun bt118 => (if bt118.1 = 4294967293 then (some (bt118.2 == 0)) else (some false))
theorem cruciblelaw01_awake.mono : ∀ k, LeO (cruciblelaw01_awake.f k ) (cruciblelaw01_awake.f (k + 1) ) := by
  intro  k
  unfold cruciblelaw01_awake.f
  repeat' first
      | (with_reducible exact word_Alu.mono _ _ _ _)
      | (with_reducible exact LeO.refl _)
      | (with_reducible exact LeO.none _)
      | (with_reducible refine LeO.ite ?_ ?_)
      | (with_reducible refine LeO.bind ?_ (fun _ => ?_))
      | exact word_Alu.mono _ _ _ _
      | exact LeO.none _
      | refine LeO.ite ?_ ?_
      | refine LeO.bind ?_ (fun _ => ?_)
set_option maxHeartbeats 8000000 in
set_option maxRecDepth 100000 in
theorem cruciblelaw01_awake.calls (k : Nat)  (r : Bool) (w : World) (h : cruciblelaw01_awake.f k  = some r) :
    Calls Try.prog 9 #[] w fun e w' => e = .returned (.bool r) ∧ Drawn0 w w' := by
  have H : ((word_Alu.f k 4 4294967289 2).bind fun bt118 => (if bt118.1 = 4294967293 then (some (bt118.2 == 0)) else (some false))) = some r := h
  clear h
  replace H := Option.bind_eq_some_iff.mp H
  obtain ⟨⟨t118, t119⟩, A10, H⟩ := H
  replace H : (if t118 = 4294967293 then (some (t119 == 0)) else (some false)) = some r := H
  have A1 := Aside0.mk A10
  clear A10
  by_cases c2 : t118 = 4294967293
  · rw [if_pos c2] at H
    have c2b0 : (t118 == 4294967293) = true := beq_iff_eq.mpr c2
    have c2b1 : (t118 != 4294967293) = false := bne_eq_false_iff_eq.mpr c2
    clear c2
    obtain rfl := Option.some.inj H
    go_enter Try.func9, Try.ntmps9
    go_wp2_with (first | ((with_reducible refine gate_callee (f := 7) rfl ?_); refine goesL_ (some 4) rfl rfl Try.func7 (by kernel_rfl) rfl #[.int .i64 4, .int .u32 4294967289, .int .u32 2] rfl (by (try simp only [List.map_toArray, List.map_cons, List.map_nil]); first | done | rfl | (simp only [List.length_drop, List.length_take]; rfl)) ?_; (with_reducible refine (word_Alu.calls k 4 4294967289 2 t118 t119 _ A1.out).mono ?_); rintro e w' ⟨rfl, ⟨nd, rfl⟩⟩; refine ⟨_, rfl, ?_⟩))
    go_ret
    exact ⟨by first | rfl | (simp; done) | (simp [*]; done), by repeat (first | exact Drawn0.refl _ | apply Drawn0.step)⟩
  · rw [if_neg c2] at H
    have c2b0 : (t118 == 4294967293) = false := beq_eq_false_iff_ne.mpr c2
    have c2b1 : (t118 != 4294967293) = true := bne_iff_ne.mpr c2
    obtain rfl := Option.some.inj H
    go_enter Try.func9, Try.ntmps9
    go_wp2_with (first | ((with_reducible refine gate_callee (f := 7) rfl ?_); refine goesL_ (some 4) rfl rfl Try.func7 (by kernel_rfl) rfl #[.int .i64 4, .int .u32 4294967289, .int .u32 2] rfl (by (try simp only [List.map_toArray, List.map_cons, List.map_nil]); first | done | rfl | (simp only [List.length_drop, List.length_take]; rfl)) ?_; (with_reducible refine (word_Alu.calls k 4 4294967289 2 t118 t119 _ A1.out).mono ?_); rintro e w' ⟨rfl, ⟨nd, rfl⟩⟩; refine ⟨_, rfl, ?_⟩))
    go_ret
    exact ⟨by first | rfl | (simp; done) | (simp [*]; done), by repeat (first | exact Drawn0.refl _ | apply Drawn0.step)⟩

/-! ### cruciblelaw01_WordAlus: function 3 -/
def cruciblelaw01_WordAlus.f (k : Nat) (a0 : Int) (a1 : Int) (a2 : Int) : Option (Bool) := (word_Alu.f k a0 a1 a2).bind fun bt120 => ((crucibleref01_Alu.f a0 a1 a2).bind fun bt122 => (if bt120.1 = bt122.1 then (if bt120.2 = bt122.2 then ((cruciblelaw01_awake.f k).bind fun t124 => (some t124)) else (some false)) else (some false)))
theorem cruciblelaw01_WordAlus.mono : ∀ a0 a1 a2 k, LeO (cruciblelaw01_WordAlus.f k a0 a1 a2) (cruciblelaw01_WordAlus.f (k + 1) a0 a1 a2) := by
  intro a0 a1 a2 k
  unfold cruciblelaw01_WordAlus.f
  repeat' first
      | (with_reducible exact cruciblelaw01_awake.mono _)
      | (with_reducible exact word_Alu.mono _ _ _ _)
      | (with_reducible exact LeO.refl _)
      | (with_reducible exact LeO.none _)
      | (with_reducible refine LeO.ite ?_ ?_)
      | (with_reducible refine LeO.bind ?_ (fun _ => ?_))
      | exact cruciblelaw01_awake.mono _
      | exact word_Alu.mono _ _ _ _
      | exact LeO.none _
      | refine LeO.ite ?_ ?_
      | refine LeO.bind ?_ (fun _ => ?_)
set_option maxHeartbeats 8000000 in
set_option maxRecDepth 100000 in
theorem cruciblelaw01_WordAlus.calls (k : Nat) (a0 : Int) (a1 : Int) (a2 : Int) (r : Bool) (w : World) (h : cruciblelaw01_WordAlus.f k a0 a1 a2 = some r) :
    Calls Try.prog 3 #[.int .i64 a0, .int .u32 a1, .int .u32 a2] w fun e w' => e = .returned (.bool r) ∧ Drawn0 w w' := by
  have H : ((word_Alu.f k a0 a1 a2).bind fun bt120 => ((crucibleref01_Alu.f a0 a1 a2).bind fun bt122 => (if bt120.1 = bt122.1 then (if bt120.2 = bt122.2 then ((cruciblelaw01_awake.f k).bind fun t124 => (some t124)) else (some false)) else (some false)))) = some r := h
  clear h
  replace H := Option.bind_eq_some_iff.mp H
  obtain ⟨⟨t120, t121⟩, A40, H⟩ := H
  replace H : ((crucibleref01_Alu.f a0 a1 a2).bind fun bt122 => (if t120 = bt122.1 then (if t121 = bt122.2 then ((cruciblelaw01_awake.f k).bind fun t124 => (some t124)) else (some false)) else (some false))) = some r := H
  have A4 := Aside0.mk A40
  clear A40
  replace H := Option.bind_eq_some_iff.mp H
  obtain ⟨⟨t122, t123⟩, A50, H⟩ := H
  replace H : (if t120 = t122 then (if t121 = t123 then ((cruciblelaw01_awake.f k).bind fun t124 => (some t124)) else (some false)) else (some false)) = some r := H
  have A5 := Aside0.mk A50
  clear A50
  by_cases c6 : t120 = t122
  · rw [if_pos c6] at H
    have c6b0 : (t120 == t122) = true := beq_iff_eq.mpr c6
    have c6b1 : (t120 != t122) = false := bne_eq_false_iff_eq.mpr c6
    clear c6
    by_cases c7 : t121 = t123
    · rw [if_pos c7] at H
      have c7b0 : (t121 == t123) = true := beq_iff_eq.mpr c7
      have c7b1 : (t121 != t123) = false := bne_eq_false_iff_eq.mpr c7
      clear c7
      replace H := Option.bind_eq_some_iff.mp H
      obtain ⟨t124, A80, H⟩ := H
      replace H : (some t124) = some r := H
      have A8 := Aside0.mk A80
      clear A80
      obtain rfl := Option.some.inj H
      go_enter Try.func3, Try.ntmps3
      go_wp2_with (first | ((with_reducible refine gate_callee (f := 7) rfl ?_); refine goesL_ (some 15) rfl rfl Try.func7 (by kernel_rfl) rfl #[.int .i64 a0, .int .u32 a1, .int .u32 a2] rfl (by (try simp only [List.map_toArray, List.map_cons, List.map_nil]); first | done | rfl | (simp only [List.length_drop, List.length_take]; rfl)) ?_; (with_reducible refine (word_Alu.calls k a0 a1 a2 t120 t121 _ A4.out).mono ?_); rintro e w' ⟨rfl, ⟨nd, rfl⟩⟩; refine ⟨_, rfl, ?_⟩) | ((with_reducible refine gate_callee (f := 8) rfl ?_); refine goesL_ (some 22) rfl rfl Try.func8 (by kernel_rfl) rfl #[.int .i64 a0, .int .u32 a1, .int .u32 a2] rfl (by (try simp only [List.map_toArray, List.map_cons, List.map_nil]); first | done | rfl | (simp only [List.length_drop, List.length_take]; rfl)) ?_; (with_reducible refine (crucibleref01_Alu.calls a0 a1 a2 t122 t123 _ A5.out).mono ?_); rintro e w' ⟨rfl, ⟨nd, rfl⟩⟩; refine ⟨_, rfl, ?_⟩) | (go_at_call 9; (with_reducible refine (cruciblelaw01_awake.calls k  t124 _ A8.out).mono ?_); rintro e w' ⟨rfl, ⟨nd, rfl⟩⟩))
      go_ret
      exact ⟨by first | rfl | (simp; done) | (simp [*]; done), by repeat (first | exact Drawn0.refl _ | apply Drawn0.step)⟩
    · rw [if_neg c7] at H
      have c7b0 : (t121 == t123) = false := beq_eq_false_iff_ne.mpr c7
      have c7b1 : (t121 != t123) = true := bne_iff_ne.mpr c7
      obtain rfl := Option.some.inj H
      go_enter Try.func3, Try.ntmps3
      go_wp2_with (first | ((with_reducible refine gate_callee (f := 7) rfl ?_); refine goesL_ (some 15) rfl rfl Try.func7 (by kernel_rfl) rfl #[.int .i64 a0, .int .u32 a1, .int .u32 a2] rfl (by (try simp only [List.map_toArray, List.map_cons, List.map_nil]); first | done | rfl | (simp only [List.length_drop, List.length_take]; rfl)) ?_; (with_reducible refine (word_Alu.calls k a0 a1 a2 t120 t121 _ A4.out).mono ?_); rintro e w' ⟨rfl, ⟨nd, rfl⟩⟩; refine ⟨_, rfl, ?_⟩) | ((with_reducible refine gate_callee (f := 8) rfl ?_); refine goesL_ (some 22) rfl rfl Try.func8 (by kernel_rfl) rfl #[.int .i64 a0, .int .u32 a1, .int .u32 a2] rfl (by (try simp only [List.map_toArray, List.map_cons, List.map_nil]); first | done | rfl | (simp only [List.length_drop, List.length_take]; rfl)) ?_; (with_reducible refine (crucibleref01_Alu.calls a0 a1 a2 t122 t123 _ A5.out).mono ?_); rintro e w' ⟨rfl, ⟨nd, rfl⟩⟩; refine ⟨_, rfl, ?_⟩))
      go_ret
      exact ⟨by first | rfl | (simp; done) | (simp [*]; done), by repeat (first | exact Drawn0.refl _ | apply Drawn0.step)⟩
  · rw [if_neg c6] at H
    have c6b0 : (t120 == t122) = false := beq_eq_false_iff_ne.mpr c6
    have c6b1 : (t120 != t122) = true := bne_iff_ne.mpr c6
    obtain rfl := Option.some.inj H
    go_enter Try.func3, Try.ntmps3
    go_wp2_with (first | ((with_reducible refine gate_callee (f := 7) rfl ?_); refine goesL_ (some 15) rfl rfl Try.func7 (by kernel_rfl) rfl #[.int .i64 a0, .int .u32 a1, .int .u32 a2] rfl (by (try simp only [List.map_toArray, List.map_cons, List.map_nil]); first | done | rfl | (simp only [List.length_drop, List.length_take]; rfl)) ?_; (with_reducible refine (word_Alu.calls k a0 a1 a2 t120 t121 _ A4.out).mono ?_); rintro e w' ⟨rfl, ⟨nd, rfl⟩⟩; refine ⟨_, rfl, ?_⟩) | ((with_reducible refine gate_callee (f := 8) rfl ?_); refine goesL_ (some 22) rfl rfl Try.func8 (by kernel_rfl) rfl #[.int .i64 a0, .int .u32 a1, .int .u32 a2] rfl (by (try simp only [List.map_toArray, List.map_cons, List.map_nil]); first | done | rfl | (simp only [List.length_drop, List.length_take]; rfl)) ?_; (with_reducible refine (crucibleref01_Alu.calls a0 a1 a2 t122 t123 _ A5.out).mono ?_); rintro e w' ⟨rfl, ⟨nd, rfl⟩⟩; refine ⟨_, rfl, ?_⟩))
    go_ret
    exact ⟨by first | rfl | (simp; done) | (simp [*]; done), by repeat (first | exact Drawn0.refl _ | apply Drawn0.step)⟩

/-- THE ONE PURE STATEMENT of cruciblelaw01_WordAlus: yours. -/
def cruciblelaw01_WordAlus.Pure : Prop := ∀ (a0 : Int) (a1 : Int) (a2 : Int), (Lit.int .i64 a0).wf = true → (Lit.int .u32 a1).wf = true → (Lit.int .u32 a2).wf = true → ∃ k, cruciblelaw01_WordAlus.f k a0 a1 a2 = some true
theorem cruciblelaw01_WordAlus.walk (P : cruciblelaw01_WordAlus.Pure) (a0 : Int) (a1 : Int) (a2 : Int) (w : World) (w0 : (Lit.int .i64 a0).wf = true) (w1 : (Lit.int .u32 a1).wf = true) (w2 : (Lit.int .u32 a2).wf = true) :
    Calls Try.prog 3 #[.int .i64 a0, .int .u32 a1, .int .u32 a2] w fun e w' => e = .returned (.bool true) ∧ Below w.heap.size w w' := by
  obtain ⟨k, h⟩ := P a0 a1 a2 w0 w1 w2
  refine (cruciblelaw01_WordAlus.calls k a0 a1 a2 true w h).mono ?_
  rintro e w' ⟨rfl, hd⟩
  exact ⟨rfl, hd.below⟩

end Go.Proofs.Ytdbkbdfehbjlbaa.PWordAlus
