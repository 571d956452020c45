/- Instructions are told back by their words, words by their instructions, and unlike ones have unlike words: the walk. -/
import Derived.Test.YtiogfhmmepepdaaWalks1
namespace Go.Proofs.Ytiogfhmmepepdaa.WalksBack
open Go.RowKit Go.Proofs.Ytiogfhmmepepdaa.PIsaDecodes Go.Proofs.Ytiogfhmmepepdaa.FactsDec Go.Proofs.Ytiogfhmmepepdaa.RefIsa Go.Proofs.Ytiogfhmmepepdaa.Walks1 Go.Proofs.YtiogfhmmepepdaaW.PrintWords Go.Proofs.YtiogfhmmepepdaaW.PrintLast Go.Proofs.YtiogfhmmepepdaaW.PrintMore
set_option linter.unusedVariables false
set_option linter.unusedSimpArgs false

set_option maxHeartbeats 8000000 in
set_option maxRecDepth 100000 in
theorem b1n (x1 x2 x3 x4 x5 y1 y2 y3 y4 y5 a b f u : Int) (w : World) (A1 : Aside0 (isa_Encode.f 7 x1 x2 x3 x4 x5 = some (a, 1))) (A2 : Aside0 (isa_Encode.f 7 y1 y2 y3 y4 y5 = some (b, f))) (A4 : Aside0 (isa_Decode.f 10 u = some (0, 0, 0, 0, 0, 1))) :
    Calls Try.prog 5 #[.agg #[.int .i64 x1, .int .i64 x2, .int .i64 x3, .int .i64 x4, .int .i32 x5], .agg #[.int .i64 y1, .int .i64 y2, .int .i64 y3, .int .i64 y4, .int .i32 y5], .int .u32 u] w fun e w' => e = .returned (.bool true) ∧ Below w.heap.size w w' := by
  have ha := Aside0.mk (awake_some 0)
  · go_enter Try.func5, Try.ntmps5
    go_wp2_with fail
    (with_reducible refine (isa_Encode.calls 7 _ _ _ _ _ _ _ _ A1.out).mono ?_)
    rintro e w1 ⟨rfl, hb⟩
    obtain ⟨hc, hf⟩ := bcell hb
    have hz : w.heap.size + 1 < w1.heap.size := by have := hb.size; simp at this; omega
    have hz' : w.heap.size < w1.heap.size := by omega
    have hb1 : Aside0 (Below w.heap.size w w1) := ⟨(below_alloc (below_alloc (Below.refl _ _) _) _).trans (hb.mono (by simp; omega))⟩
    clear hb
    go_wp2_with fail
    (with_reducible refine (isa_Encode.calls 7 _ _ _ _ _ _ _ _ A2.out).mono ?_)
    rintro e w2 ⟨rfl, hb⟩
    obtain ⟨hc2, hf2⟩ := bcell hb
    have hz2 : w.heap.size + 1 < w2.heap.size := Nat.lt_of_lt_of_le hz hb.size
    have hz2' : w.heap.size < w2.heap.size := by omega
    have hb2 : Aside0 (Below w.heap.size w w2) := ⟨below_then hb1.out (by omega) hb⟩
    clear hb

    go_wp2_with fail
    all_goals (with_reducible refine (isa_Decode.calls 10 _ _ _ _ _ _ _ _ A4.out).mono ?_)

    all_goals
      rintro e w4 ⟨rfl, hb⟩
      obtain ⟨hc4, hf4⟩ := bcell hb
      have hb4 : Aside0 (Below w.heap.size w w4) := ⟨below_then (by repeat (with_reducible first | exact hb2.out | refine below_alloc ?_ _)) (by have := hb2.out.size; first | (simp; omega) | omega) hb⟩
      clear hb
      go_wp2_with fail
      (with_reducible refine (cruciblelaw02_awake.calls 7 true _ ha.out).mono ?_)
      rintro e w5 ⟨rfl, hb⟩
      have hb5 : Aside0 (Below w.heap.size w w5) := ⟨below_then (by repeat (with_reducible first | exact hb4.out | refine below_alloc ?_ _)) (by have := hb4.out.size; first | (simp; omega) | omega) hb⟩
      go_wp2
      go_ret
      exact ⟨rfl, hb5.out⟩

set_option maxHeartbeats 8000000 in
set_option maxRecDepth 100000 in
theorem b1y (x1 x2 x3 x4 x5 y1 y2 y3 y4 y5 z1 z2 z3 z4 z5 a b f u : Int) (w : World) (A1 : Aside0 (isa_Encode.f 7 x1 x2 x3 x4 x5 = some (a, 1))) (A2 : Aside0 (isa_Encode.f 7 y1 y2 y3 y4 y5 = some (b, f))) (A4 : Aside0 (isa_Decode.f 10 u = some (z1, z2, z3, z4, z5, 0))) (A5 : Aside0 (isa_Encode.f 7 z1 z2 z3 z4 z5 = some (u, 0))) :
    Calls Try.prog 5 #[.agg #[.int .i64 x1, .int .i64 x2, .int .i64 x3, .int .i64 x4, .int .i32 x5], .agg #[.int .i64 y1, .int .i64 y2, .int .i64 y3, .int .i64 y4, .int .i32 y5], .int .u32 u] w fun e w' => e = .returned (.bool true) ∧ Below w.heap.size w w' := by
  have ha := Aside0.mk (awake_some 0)
  · go_enter Try.func5, Try.ntmps5
    go_wp2_with fail
    (with_reducible refine (isa_Encode.calls 7 _ _ _ _ _ _ _ _ A1.out).mono ?_)
    rintro e w1 ⟨rfl, hb⟩
    obtain ⟨hc, hf⟩ := bcell hb
    have hz : w.heap.size + 1 < w1.heap.size := by have := hb.size; simp at this; omega
    have hz' : w.heap.size < w1.heap.size := by omega
    have hb1 : Aside0 (Below w.heap.size w w1) := ⟨(below_alloc (below_alloc (Below.refl _ _) _) _).trans (hb.mono (by simp; omega))⟩
    clear hb
    go_wp2_with fail
    (with_reducible refine (isa_Encode.calls 7 _ _ _ _ _ _ _ _ A2.out).mono ?_)
    rintro e w2 ⟨rfl, hb⟩
    obtain ⟨hc2, hf2⟩ := bcell hb
    have hz2 : w.heap.size + 1 < w2.heap.size := Nat.lt_of_lt_of_le hz hb.size
    have hz2' : w.heap.size < w2.heap.size := by omega
    have hb2 : Aside0 (Below w.heap.size w w2) := ⟨below_then hb1.out (by omega) hb⟩
    clear hb

    go_wp2_with fail
    all_goals (with_reducible refine (isa_Decode.calls 10 _ _ _ _ _ _ _ _ A4.out).mono ?_)

    all_goals
      rintro e w4 ⟨rfl, hb⟩
      obtain ⟨hc4, hf4⟩ := bcell hb
      have hb4 : Aside0 (Below w.heap.size w w4) := ⟨below_then (by repeat (with_reducible first | exact hb2.out | refine below_alloc ?_ _)) (by have := hb2.out.size; first | (simp; omega) | omega) hb⟩
      clear hb
      go_wp2_with fail
      (with_reducible refine (isa_Encode.calls 7 _ _ _ _ _ _ _ _ A5.out).mono ?_)
      rintro e w5 ⟨rfl, hb⟩
      have hb5 : Aside0 (Below w.heap.size w w5) := ⟨below_then (by repeat (with_reducible first | exact hb4.out | refine below_alloc ?_ _)) (by have := hb4.out.size; first | (simp; omega) | omega) hb⟩
      clear hb
      go_wp2_with fail
      (with_reducible refine (cruciblelaw02_awake.calls 7 true _ ha.out).mono ?_)
      rintro e w6 ⟨rfl, hb⟩
      have hb6 : Aside0 (Below w.heap.size w w6) := ⟨below_then (by repeat (with_reducible first | exact hb5.out | refine below_alloc ?_ _)) (by have := hb5.out.size; first | (simp; omega) | omega) hb⟩
      go_wp2
      go_ret
      exact ⟨rfl, hb6.out⟩

set_option maxHeartbeats 8000000 in
set_option maxRecDepth 100000 in
theorem b2n (x1 x2 x3 x4 x5 y1 y2 y3 y4 y5 a b u : Int) (w : World) (A1 : Aside0 (isa_Encode.f 7 x1 x2 x3 x4 x5 = some (a, 0))) (A2 : Aside0 (isa_Encode.f 7 y1 y2 y3 y4 y5 = some (b, 1))) (A3 : Aside0 (isa_Decode.f 10 a = some (x1, x2, x3, x4, x5, 0))) (A4 : Aside0 (isa_Decode.f 10 u = some (0, 0, 0, 0, 0, 1))) :
    Calls Try.prog 5 #[.agg #[.int .i64 x1, .int .i64 x2, .int .i64 x3, .int .i64 x4, .int .i32 x5], .agg #[.int .i64 y1, .int .i64 y2, .int .i64 y3, .int .i64 y4, .int .i32 y5], .int .u32 u] w fun e w' => e = .returned (.bool true) ∧ Below w.heap.size w w' := by
  have ha := Aside0.mk (awake_some 0)
  · go_enter Try.func5, Try.ntmps5
    go_wp2_with fail
    (with_reducible refine (isa_Encode.calls 7 _ _ _ _ _ _ _ _ A1.out).mono ?_)
    rintro e w1 ⟨rfl, hb⟩
    obtain ⟨hc, hf⟩ := bcell hb
    have hz : w.heap.size + 1 < w1.heap.size := by have := hb.size; simp at this; omega
    have hz' : w.heap.size < w1.heap.size := by omega
    have hb1 : Aside0 (Below w.heap.size w w1) := ⟨(below_alloc (below_alloc (Below.refl _ _) _) _).trans (hb.mono (by simp; omega))⟩
    clear hb
    go_wp2_with fail
    (with_reducible refine (isa_Encode.calls 7 _ _ _ _ _ _ _ _ A2.out).mono ?_)
    rintro e w2 ⟨rfl, hb⟩
    obtain ⟨hc2, hf2⟩ := bcell hb
    have hz2 : w.heap.size + 1 < w2.heap.size := Nat.lt_of_lt_of_le hz hb.size
    have hz2' : w.heap.size < w2.heap.size := by omega
    have hb2 : Aside0 (Below w.heap.size w w2) := ⟨below_then hb1.out (by omega) hb⟩
    clear hb

    go_wp2_with fail
    (with_reducible refine (isa_Decode.calls 10 _ _ _ _ _ _ _ _ A3.out).mono ?_)
    rintro e w3 ⟨rfl, hb⟩
    obtain ⟨hc3, hf3⟩ := bcell hb
    have hz3 : w.heap.size + 1 < w3.heap.size := Nat.lt_of_lt_of_le hz2 hb.size
    have hz3' : w.heap.size < w3.heap.size := by omega
    have hb3 : Aside0 (Below w.heap.size w w3) := ⟨below_then hb2.out (by omega) hb⟩
    clear hb

    go_wp2_with fail
    all_goals (with_reducible refine (isa_Decode.calls 10 _ _ _ _ _ _ _ _ A4.out).mono ?_)

    all_goals
      rintro e w4 ⟨rfl, hb⟩
      obtain ⟨hc4, hf4⟩ := bcell hb
      have hb4 : Aside0 (Below w.heap.size w w4) := ⟨below_then (by repeat (with_reducible first | exact hb3.out | refine below_alloc ?_ _)) (by have := hb3.out.size; first | (simp; omega) | omega) hb⟩
      clear hb
      go_wp2_with fail
      (with_reducible refine (cruciblelaw02_awake.calls 7 true _ ha.out).mono ?_)
      rintro e w5 ⟨rfl, hb⟩
      have hb5 : Aside0 (Below w.heap.size w w5) := ⟨below_then (by repeat (with_reducible first | exact hb4.out | refine below_alloc ?_ _)) (by have := hb4.out.size; first | (simp; omega) | omega) hb⟩
      go_wp2
      go_ret
      exact ⟨rfl, hb5.out⟩

set_option maxHeartbeats 8000000 in
set_option maxRecDepth 100000 in
theorem b2y (x1 x2 x3 x4 x5 y1 y2 y3 y4 y5 z1 z2 z3 z4 z5 a b u : Int) (w : World) (A1 : Aside0 (isa_Encode.f 7 x1 x2 x3 x4 x5 = some (a, 0))) (A2 : Aside0 (isa_Encode.f 7 y1 y2 y3 y4 y5 = some (b, 1))) (A3 : Aside0 (isa_Decode.f 10 a = some (x1, x2, x3, x4, x5, 0))) (A4 : Aside0 (isa_Decode.f 10 u = some (z1, z2, z3, z4, z5, 0))) (A5 : Aside0 (isa_Encode.f 7 z1 z2 z3 z4 z5 = some (u, 0))) :
    Calls Try.prog 5 #[.agg #[.int .i64 x1, .int .i64 x2, .int .i64 x3, .int .i64 x4, .int .i32 x5], .agg #[.int .i64 y1, .int .i64 y2, .int .i64 y3, .int .i64 y4, .int .i32 y5], .int .u32 u] w fun e w' => e = .returned (.bool true) ∧ Below w.heap.size w w' := by
  have ha := Aside0.mk (awake_some 0)
  · go_enter Try.func5, Try.ntmps5
    go_wp2_with fail
    (with_reducible refine (isa_Encode.calls 7 _ _ _ _ _ _ _ _ A1.out).mono ?_)
    rintro e w1 ⟨rfl, hb⟩
    obtain ⟨hc, hf⟩ := bcell hb
    have hz : w.heap.size + 1 < w1.heap.size := by have := hb.size; simp at this; omega
    have hz' : w.heap.size < w1.heap.size := by omega
    have hb1 : Aside0 (Below w.heap.size w w1) := ⟨(below_alloc (below_alloc (Below.refl _ _) _) _).trans (hb.mono (by simp; omega))⟩
    clear hb
    go_wp2_with fail
    (with_reducible refine (isa_Encode.calls 7 _ _ _ _ _ _ _ _ A2.out).mono ?_)
    rintro e w2 ⟨rfl, hb⟩
    obtain ⟨hc2, hf2⟩ := bcell hb
    have hz2 : w.heap.size + 1 < w2.heap.size := Nat.lt_of_lt_of_le hz hb.size
    have hz2' : w.heap.size < w2.heap.size := by omega
    have hb2 : Aside0 (Below w.heap.size w w2) := ⟨below_then hb1.out (by omega) hb⟩
    clear hb

    go_wp2_with fail
    (with_reducible refine (isa_Decode.calls 10 _ _ _ _ _ _ _ _ A3.out).mono ?_)
    rintro e w3 ⟨rfl, hb⟩
    obtain ⟨hc3, hf3⟩ := bcell hb
    have hz3 : w.heap.size + 1 < w3.heap.size := Nat.lt_of_lt_of_le hz2 hb.size
    have hz3' : w.heap.size < w3.heap.size := by omega
    have hb3 : Aside0 (Below w.heap.size w w3) := ⟨below_then hb2.out (by omega) hb⟩
    clear hb

    go_wp2_with fail
    all_goals (with_reducible refine (isa_Decode.calls 10 _ _ _ _ _ _ _ _ A4.out).mono ?_)

    all_goals
      rintro e w4 ⟨rfl, hb⟩
      obtain ⟨hc4, hf4⟩ := bcell hb
      have hb4 : Aside0 (Below w.heap.size w w4) := ⟨below_then (by repeat (with_reducible first | exact hb3.out | refine below_alloc ?_ _)) (by have := hb3.out.size; first | (simp; omega) | omega) hb⟩
      clear hb
      go_wp2_with fail
      (with_reducible refine (isa_Encode.calls 7 _ _ _ _ _ _ _ _ A5.out).mono ?_)
      rintro e w5 ⟨rfl, hb⟩
      have hb5 : Aside0 (Below w.heap.size w w5) := ⟨below_then (by repeat (with_reducible first | exact hb4.out | refine below_alloc ?_ _)) (by have := hb4.out.size; first | (simp; omega) | omega) hb⟩
      clear hb
      go_wp2_with fail
      (with_reducible refine (cruciblelaw02_awake.calls 7 true _ ha.out).mono ?_)
      rintro e w6 ⟨rfl, hb⟩
      have hb6 : Aside0 (Below w.heap.size w w6) := ⟨below_then (by repeat (with_reducible first | exact hb5.out | refine below_alloc ?_ _)) (by have := hb5.out.size; first | (simp; omega) | omega) hb⟩
      go_wp2
      go_ret
      exact ⟨rfl, hb6.out⟩

set_option maxHeartbeats 8000000 in
set_option maxRecDepth 100000 in
theorem b3n (x1 x2 x3 x4 x5 a b u : Int) (w : World) (A1 : Aside0 (isa_Encode.f 7 x1 x2 x3 x4 x5 = some (a, 0))) (A2 : Aside0 (isa_Encode.f 7 x1 x2 x3 x4 x5 = some (b, 0))) (A3 : Aside0 (isa_Decode.f 10 a = some (x1, x2, x3, x4, x5, 0))) (A4 : Aside0 (isa_Decode.f 10 u = some (0, 0, 0, 0, 0, 1))) :
    Calls Try.prog 5 #[.agg #[.int .i64 x1, .int .i64 x2, .int .i64 x3, .int .i64 x4, .int .i32 x5], .agg #[.int .i64 x1, .int .i64 x2, .int .i64 x3, .int .i64 x4, .int .i32 x5], .int .u32 u] w fun e w' => e = .returned (.bool true) ∧ Below w.heap.size w w' := by
  have ha := Aside0.mk (awake_some 0)
  · go_enter Try.func5, Try.ntmps5
    go_wp2_with fail
    (with_reducible refine (isa_Encode.calls 7 _ _ _ _ _ _ _ _ A1.out).mono ?_)
    rintro e w1 ⟨rfl, hb⟩
    obtain ⟨hc, hf⟩ := bcell hb
    have hz : w.heap.size + 1 < w1.heap.size := by have := hb.size; simp at this; omega
    have hz' : w.heap.size < w1.heap.size := by omega
    have hb1 : Aside0 (Below w.heap.size w w1) := ⟨(below_alloc (below_alloc (Below.refl _ _) _) _).trans (hb.mono (by simp; omega))⟩
    clear hb
    go_wp2_with fail
    (with_reducible refine (isa_Encode.calls 7 _ _ _ _ _ _ _ _ A2.out).mono ?_)
    rintro e w2 ⟨rfl, hb⟩
    obtain ⟨hc2, hf2⟩ := bcell hb
    have hz2 : w.heap.size + 1 < w2.heap.size := Nat.lt_of_lt_of_le hz hb.size
    have hz2' : w.heap.size < w2.heap.size := by omega
    have hb2 : Aside0 (Below w.heap.size w w2) := ⟨below_then hb1.out (by omega) hb⟩
    clear hb

    go_wp2_with fail
    (with_reducible refine (isa_Decode.calls 10 _ _ _ _ _ _ _ _ A3.out).mono ?_)
    rintro e w3 ⟨rfl, hb⟩
    obtain ⟨hc3, hf3⟩ := bcell hb
    have hz3 : w.heap.size + 1 < w3.heap.size := Nat.lt_of_lt_of_le hz2 hb.size
    have hz3' : w.heap.size < w3.heap.size := by omega
    have hb3 : Aside0 (Below w.heap.size w w3) := ⟨below_then hb2.out (by omega) hb⟩
    clear hb

    go_wp2_with fail
    all_goals (with_reducible refine (isa_Decode.calls 10 _ _ _ _ _ _ _ _ A4.out).mono ?_)

    all_goals
      rintro e w4 ⟨rfl, hb⟩
      obtain ⟨hc4, hf4⟩ := bcell hb
      have hb4 : Aside0 (Below w.heap.size w w4) := ⟨below_then (by repeat (with_reducible first | exact hb3.out | refine below_alloc ?_ _)) (by have := hb3.out.size; first | (simp; omega) | omega) hb⟩
      clear hb
      go_wp2_with fail
      (with_reducible refine (cruciblelaw02_awake.calls 7 true _ ha.out).mono ?_)
      rintro e w5 ⟨rfl, hb⟩
      have hb5 : Aside0 (Below w.heap.size w w5) := ⟨below_then (by repeat (with_reducible first | exact hb4.out | refine below_alloc ?_ _)) (by have := hb4.out.size; first | (simp; omega) | omega) hb⟩
      go_wp2
      go_ret
      exact ⟨rfl, hb5.out⟩

set_option maxHeartbeats 8000000 in
set_option maxRecDepth 100000 in
theorem b3y (x1 x2 x3 x4 x5 z1 z2 z3 z4 z5 a b u : Int) (w : World) (A1 : Aside0 (isa_Encode.f 7 x1 x2 x3 x4 x5 = some (a, 0))) (A2 : Aside0 (isa_Encode.f 7 x1 x2 x3 x4 x5 = some (b, 0))) (A3 : Aside0 (isa_Decode.f 10 a = some (x1, x2, x3, x4, x5, 0))) (A4 : Aside0 (isa_Decode.f 10 u = some (z1, z2, z3, z4, z5, 0))) (A5 : Aside0 (isa_Encode.f 7 z1 z2 z3 z4 z5 = some (u, 0))) :
    Calls Try.prog 5 #[.agg #[.int .i64 x1, .int .i64 x2, .int .i64 x3, .int .i64 x4, .int .i32 x5], .agg #[.int .i64 x1, .int .i64 x2, .int .i64 x3, .int .i64 x4, .int .i32 x5], .int .u32 u] w fun e w' => e = .returned (.bool true) ∧ Below w.heap.size w w' := by
  have ha := Aside0.mk (awake_some 0)
  · go_enter Try.func5, Try.ntmps5
    go_wp2_with fail
    (with_reducible refine (isa_Encode.calls 7 _ _ _ _ _ _ _ _ A1.out).mono ?_)
    rintro e w1 ⟨rfl, hb⟩
    obtain ⟨hc, hf⟩ := bcell hb
    have hz : w.heap.size + 1 < w1.heap.size := by have := hb.size; simp at this; omega
    have hz' : w.heap.size < w1.heap.size := by omega
    have hb1 : Aside0 (Below w.heap.size w w1) := ⟨(below_alloc (below_alloc (Below.refl _ _) _) _).trans (hb.mono (by simp; omega))⟩
    clear hb
    go_wp2_with fail
    (with_reducible refine (isa_Encode.calls 7 _ _ _ _ _ _ _ _ A2.out).mono ?_)
    rintro e w2 ⟨rfl, hb⟩
    obtain ⟨hc2, hf2⟩ := bcell hb
    have hz2 : w.heap.size + 1 < w2.heap.size := Nat.lt_of_lt_of_le hz hb.size
    have hz2' : w.heap.size < w2.heap.size := by omega
    have hb2 : Aside0 (Below w.heap.size w w2) := ⟨below_then hb1.out (by omega) hb⟩
    clear hb

    go_wp2_with fail
    (with_reducible refine (isa_Decode.calls 10 _ _ _ _ _ _ _ _ A3.out).mono ?_)
    rintro e w3 ⟨rfl, hb⟩
    obtain ⟨hc3, hf3⟩ := bcell hb
    have hz3 : w.heap.size + 1 < w3.heap.size := Nat.lt_of_lt_of_le hz2 hb.size
    have hz3' : w.heap.size < w3.heap.size := by omega
    have hb3 : Aside0 (Below w.heap.size w w3) := ⟨below_then hb2.out (by omega) hb⟩
    clear hb

    go_wp2_with fail
    all_goals (with_reducible refine (isa_Decode.calls 10 _ _ _ _ _ _ _ _ A4.out).mono ?_)

    all_goals
      rintro e w4 ⟨rfl, hb⟩
      obtain ⟨hc4, hf4⟩ := bcell hb
      have hb4 : Aside0 (Below w.heap.size w w4) := ⟨below_then (by repeat (with_reducible first | exact hb3.out | refine below_alloc ?_ _)) (by have := hb3.out.size; first | (simp; omega) | omega) hb⟩
      clear hb
      go_wp2_with fail
      (with_reducible refine (isa_Encode.calls 7 _ _ _ _ _ _ _ _ A5.out).mono ?_)
      rintro e w5 ⟨rfl, hb⟩
      have hb5 : Aside0 (Below w.heap.size w w5) := ⟨below_then (by repeat (with_reducible first | exact hb4.out | refine below_alloc ?_ _)) (by have := hb4.out.size; first | (simp; omega) | omega) hb⟩
      clear hb
      go_wp2_with fail
      (with_reducible refine (cruciblelaw02_awake.calls 7 true _ ha.out).mono ?_)
      rintro e w6 ⟨rfl, hb⟩
      have hb6 : Aside0 (Below w.heap.size w w6) := ⟨below_then (by repeat (with_reducible first | exact hb5.out | refine below_alloc ?_ _)) (by have := hb5.out.size; first | (simp; omega) | omega) hb⟩
      go_wp2
      go_ret
      exact ⟨rfl, hb6.out⟩

set_option maxHeartbeats 8000000 in
set_option maxRecDepth 100000 in
theorem b4n (x1 x2 x3 x4 x5 y1 y2 y3 y4 y5 a b u : Int) (w : World) (A1 : Aside0 (isa_Encode.f 7 x1 x2 x3 x4 x5 = some (a, 0))) (A2 : Aside0 (isa_Encode.f 7 y1 y2 y3 y4 y5 = some (b, 0))) (A3 : Aside0 (isa_Decode.f 10 a = some (x1, x2, x3, x4, x5, 0))) (A4 : Aside0 (isa_Decode.f 10 u = some (0, 0, 0, 0, 0, 1))) (hab : (a == b) = false) (hxy : (x1 == y1 && (x2 == y2 && (x3 == y3 && (x4 == y4 && x5 == y5)))) = false) :
    Calls Try.prog 5 #[.agg #[.int .i64 x1, .int .i64 x2, .int .i64 x3, .int .i64 x4, .int .i32 x5], .agg #[.int .i64 y1, .int .i64 y2, .int .i64 y3, .int .i64 y4, .int .i32 y5], .int .u32 u] w fun e w' => e = .returned (.bool true) ∧ Below w.heap.size w w' := by
  have ha := Aside0.mk (awake_some 0)
  · go_enter Try.func5, Try.ntmps5
    go_wp2_with fail
    (with_reducible refine (isa_Encode.calls 7 _ _ _ _ _ _ _ _ A1.out).mono ?_)
    rintro e w1 ⟨rfl, hb⟩
    obtain ⟨hc, hf⟩ := bcell hb
    have hz : w.heap.size + 1 < w1.heap.size := by have := hb.size; simp at this; omega
    have hz' : w.heap.size < w1.heap.size := by omega
    have hb1 : Aside0 (Below w.heap.size w w1) := ⟨(below_alloc (below_alloc (Below.refl _ _) _) _).trans (hb.mono (by simp; omega))⟩
    clear hb
    go_wp2_with fail
    (with_reducible refine (isa_Encode.calls 7 _ _ _ _ _ _ _ _ A2.out).mono ?_)
    rintro e w2 ⟨rfl, hb⟩
    obtain ⟨hc2, hf2⟩ := bcell hb
    have hz2 : w.heap.size + 1 < w2.heap.size := Nat.lt_of_lt_of_le hz hb.size
    have hz2' : w.heap.size < w2.heap.size := by omega
    have hb2 : Aside0 (Below w.heap.size w w2) := ⟨below_then hb1.out (by omega) hb⟩
    clear hb

    go_wp2_with fail
    (with_reducible refine (isa_Decode.calls 10 _ _ _ _ _ _ _ _ A3.out).mono ?_)
    rintro e w3 ⟨rfl, hb⟩
    obtain ⟨hc3, hf3⟩ := bcell hb
    have hz3 : w.heap.size + 1 < w3.heap.size := Nat.lt_of_lt_of_le hz2 hb.size
    have hz3' : w.heap.size < w3.heap.size := by omega
    have hb3 : Aside0 (Below w.heap.size w w3) := ⟨below_then hb2.out (by omega) hb⟩
    clear hb

    go_wp2_with fail
    all_goals (with_reducible refine (isa_Decode.calls 10 _ _ _ _ _ _ _ _ A4.out).mono ?_)

    all_goals
      rintro e w4 ⟨rfl, hb⟩
      obtain ⟨hc4, hf4⟩ := bcell hb
      have hb4 : Aside0 (Below w.heap.size w w4) := ⟨below_then (by repeat (with_reducible first | exact hb3.out | refine below_alloc ?_ _)) (by have := hb3.out.size; first | (simp; omega) | omega) hb⟩
      clear hb
      go_wp2_with fail
      (with_reducible refine (cruciblelaw02_awake.calls 7 true _ ha.out).mono ?_)
      rintro e w5 ⟨rfl, hb⟩
      have hb5 : Aside0 (Below w.heap.size w w5) := ⟨below_then (by repeat (with_reducible first | exact hb4.out | refine below_alloc ?_ _)) (by have := hb4.out.size; first | (simp; omega) | omega) hb⟩
      go_wp2
      go_ret
      exact ⟨rfl, hb5.out⟩

set_option maxHeartbeats 8000000 in
set_option maxRecDepth 100000 in
theorem b4y (x1 x2 x3 x4 x5 y1 y2 y3 y4 y5 z1 z2 z3 z4 z5 a b u : Int) (w : World) (A1 : Aside0 (isa_Encode.f 7 x1 x2 x3 x4 x5 = some (a, 0))) (A2 : Aside0 (isa_Encode.f 7 y1 y2 y3 y4 y5 = some (b, 0))) (A3 : Aside0 (isa_Decode.f 10 a = some (x1, x2, x3, x4, x5, 0))) (A4 : Aside0 (isa_Decode.f 10 u = some (z1, z2, z3, z4, z5, 0))) (A5 : Aside0 (isa_Encode.f 7 z1 z2 z3 z4 z5 = some (u, 0))) (hab : (a == b) = false) (hxy : (x1 == y1 && (x2 == y2 && (x3 == y3 && (x4 == y4 && x5 == y5)))) = false) :
    Calls Try.prog 5 #[.agg #[.int .i64 x1, .int .i64 x2, .int .i64 x3, .int .i64 x4, .int .i32 x5], .agg #[.int .i64 y1, .int .i64 y2, .int .i64 y3, .int .i64 y4, .int .i32 y5], .int .u32 u] w fun e w' => e = .returned (.bool true) ∧ Below w.heap.size w w' := by
  have ha := Aside0.mk (awake_some 0)
  · go_enter Try.func5, Try.ntmps5
    go_wp2_with fail
    (with_reducible refine (isa_Encode.calls 7 _ _ _ _ _ _ _ _ A1.out).mono ?_)
    rintro e w1 ⟨rfl, hb⟩
    obtain ⟨hc, hf⟩ := bcell hb
    have hz : w.heap.size + 1 < w1.heap.size := by have := hb.size; simp at this; omega
    have hz' : w.heap.size < w1.heap.size := by omega
    have hb1 : Aside0 (Below w.heap.size w w1) := ⟨(below_alloc (below_alloc (Below.refl _ _) _) _).trans (hb.mono (by simp; omega))⟩
    clear hb
    go_wp2_with fail
    (with_reducible refine (isa_Encode.calls 7 _ _ _ _ _ _ _ _ A2.out).mono ?_)
    rintro e w2 ⟨rfl, hb⟩
    obtain ⟨hc2, hf2⟩ := bcell hb
    have hz2 : w.heap.size + 1 < w2.heap.size := Nat.lt_of_lt_of_le hz hb.size
    have hz2' : w.heap.size < w2.heap.size := by omega
    have hb2 : Aside0 (Below w.heap.size w w2) := ⟨below_then hb1.out (by omega) hb⟩
    clear hb

    go_wp2_with fail
    (with_reducible refine (isa_Decode.calls 10 _ _ _ _ _ _ _ _ A3.out).mono ?_)
    rintro e w3 ⟨rfl, hb⟩
    obtain ⟨hc3, hf3⟩ := bcell hb
    have hz3 : w.heap.size + 1 < w3.heap.size := Nat.lt_of_lt_of_le hz2 hb.size
    have hz3' : w.heap.size < w3.heap.size := by omega
    have hb3 : Aside0 (Below w.heap.size w w3) := ⟨below_then hb2.out (by omega) hb⟩
    clear hb

    go_wp2_with fail
    all_goals (with_reducible refine (isa_Decode.calls 10 _ _ _ _ _ _ _ _ A4.out).mono ?_)

    all_goals
      rintro e w4 ⟨rfl, hb⟩
      obtain ⟨hc4, hf4⟩ := bcell hb
      have hb4 : Aside0 (Below w.heap.size w w4) := ⟨below_then (by repeat (with_reducible first | exact hb3.out | refine below_alloc ?_ _)) (by have := hb3.out.size; first | (simp; omega) | omega) hb⟩
      clear hb
      go_wp2_with fail
      (with_reducible refine (isa_Encode.calls 7 _ _ _ _ _ _ _ _ A5.out).mono ?_)
      rintro e w5 ⟨rfl, hb⟩
      have hb5 : Aside0 (Below w.heap.size w w5) := ⟨below_then (by repeat (with_reducible first | exact hb4.out | refine below_alloc ?_ _)) (by have := hb4.out.size; first | (simp; omega) | omega) hb⟩
      clear hb
      go_wp2_with fail
      (with_reducible refine (cruciblelaw02_awake.calls 7 true _ ha.out).mono ?_)
      rintro e w6 ⟨rfl, hb⟩
      have hb6 : Aside0 (Below w.heap.size w w6) := ⟨below_then (by repeat (with_reducible first | exact hb5.out | refine below_alloc ?_ _)) (by have := hb5.out.size; first | (simp; omega) | omega) hb⟩
      go_wp2
      go_ret
      exact ⟨rfl, hb6.out⟩

end Go.Proofs.Ytiogfhmmepepdaa.WalksBack
