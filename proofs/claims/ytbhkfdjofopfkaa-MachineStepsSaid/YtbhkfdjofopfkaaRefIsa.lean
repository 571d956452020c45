/- The reference of layer 2, function by function: what its registers, operands, instructions may be. -/
import Derived.Test.YtbhkfdjofopfkaaFactsDec
import Derived.Lib.Hide
namespace Go.Proofs.Ytbhkfdjofopfkaa.RefIsa
open Go.RowKit Go.Proofs.Ytbhkfdjofopfkaa.PMachineSteps Go.Proofs.Ytbhkfdjofopfkaa.FactsDec Go.Proofs.YtbhkfdjofopfkaaW.PrintWords Go.Proofs.YtbhkfdjofopfkaaW.PrintLast
set_option linter.unusedVariables false
set_option linter.unusedSimpArgs false

theorem reg (r : Int) (h v : Bool) (w : World) (hv : rg r h = v) : Calls Try.prog 71 #[.int .i64 r, .bool h] w fun e w' => e = .returned (.bool v) ∧ w = w' := by
  subst hv
  unfold rg
  by_cases h0 : r = 0
  · subst h0
    go_enter Try.func71, Try.ntmps71
    go_wp2
    go_ret
    exact ⟨by simp, rfl⟩
  · have e0 : (r == 0) = false := beq_eq_false_iff_ne.2 h0
    cases h with
    | false =>
      go_enter Try.func71, Try.ntmps71
      go_wp2
      go_ret
      exact ⟨by simp [e0], rfl⟩
    | true =>
      by_cases h1 : 0 < r
      · by_cases h2 : r < 16
        · go_enter Try.func71, Try.ntmps71
          go_wp2
          go_ret
          exact ⟨by simp [h2]; omega, rfl⟩
        · have h2' : decide (r < 16) = false := by simpa using h2
          go_enter Try.func71, Try.ntmps71
          go_wp2
          go_ret
          exact ⟨by simp [h2], rfl⟩
      · have h1' : decide (0 < r) = false := by simpa using h1
        go_enter Try.func71, Try.ntmps71
        go_wp2
        go_ret
        exact ⟨by first | (simp; done) | (simp; omega), rfl⟩

/-- An operand's bits, its sign, its least and greatest. -/
def Im (bits : Int) (sign : Bool) (lo hi : Int) : Prop := (bits = 0 ∧ sign = false ∧ lo = 0 ∧ hi = 0) ∨ (bits = 16 ∧ sign = true ∧ lo = -32768 ∧ hi = 32767) ∨ (bits = 16 ∧ sign = false ∧ lo = 0 ∧ hi = 65535) ∨ (bits = 24 ∧ sign = true ∧ lo = -8388608 ∧ hi = 8388607)

set_option maxHeartbeats 4000000 in
set_option maxRecDepth 100000 in
theorem imm (op d a b i bits lo hi : Int) (sd sa sb sign is v : Bool) (w : World) (h0 : -2147483648 ≤ i) (h1 : i ≤ 2147483647) (H : Im bits sign lo hi) (hv : (decide (lo ≤ i) && decide (i ≤ hi)) = v) :
    Calls Try.prog 72 #[.agg #[.int .i64 op, .int .i64 d, .int .i64 a, .int .i64 b, .int .i32 i], .agg #[.bool sd, .bool sa, .bool sb, .int .i64 bits, .bool sign, .bool is]] w
      fun e w' => e = .returned (.bool v) ∧ Below w.heap.size w w' := by
  subst hv
  rcases H with ⟨rfl, rfl, rfl, rfl⟩ | ⟨rfl, rfl, rfl, rfl⟩ | ⟨rfl, rfl, rfl, rfl⟩ | ⟨rfl, rfl, rfl, rfl⟩
  · by_cases c1 : i = 0
    · subst c1
      go_enter Try.func72, Try.ntmps72
      go_wp2
      go_ret
      exact ⟨by simp, by repeat (first | exact Below.refl _ _ | apply below_alloc)⟩
    · have e1 : (i == 0) = false := beq_eq_false_iff_ne.2 c1
      go_enter Try.func72, Try.ntmps72
      go_wp2
      go_ret
      exact ⟨by simp [e1]; omega, by repeat (first | exact Below.refl _ _ | apply below_alloc)⟩
  · by_cases c1 : -32768 ≤ i
    · by_cases c2 : i < 32768
      · go_enter Try.func72, Try.ntmps72
        go_wp2
        go_ret
        exact ⟨by first | (simp; done) | (simp; omega), by repeat (first | exact Below.refl _ _ | apply below_alloc)⟩
      · have c2' : decide (i < 32768) = false := by simpa using c2
        go_enter Try.func72, Try.ntmps72
        go_wp2
        go_ret
        exact ⟨by first | (simp; done) | (simp; omega), by repeat (first | exact Below.refl _ _ | apply below_alloc)⟩
    · have c1' : decide (-32768 ≤ i) = false := by simpa using c1
      go_enter Try.func72, Try.ntmps72
      go_wp2
      go_ret
      exact ⟨by first | (simp; done) | (simp; omega), by repeat (first | exact Below.refl _ _ | apply below_alloc)⟩
  · by_cases c1 : 0 ≤ i
    · by_cases c2 : i < 65536
      · go_enter Try.func72, Try.ntmps72
        go_wp2
        go_ret
        exact ⟨by first | (simp; done) | (simp; omega), by repeat (first | exact Below.refl _ _ | apply below_alloc)⟩
      · have c2' : decide (i < 65536) = false := by simpa using c2
        go_enter Try.func72, Try.ntmps72
        go_wp2
        go_ret
        exact ⟨by first | (simp; done) | (simp; omega), by repeat (first | exact Below.refl _ _ | apply below_alloc)⟩
    · have c1' : decide (0 ≤ i) = false := by simpa using c1
      go_enter Try.func72, Try.ntmps72
      go_wp2
      go_ret
      exact ⟨by first | (simp; done) | (simp; omega), by repeat (first | exact Below.refl _ _ | apply below_alloc)⟩
  · by_cases c1 : -8388608 ≤ i
    · by_cases c2 : i < 8388608
      · go_enter Try.func72, Try.ntmps72
        go_wp2
        go_ret
        exact ⟨by first | (simp; done) | (simp; omega), by repeat (first | exact Below.refl _ _ | apply below_alloc)⟩
      · have c2' : decide (i < 8388608) = false := by simpa using c2
        go_enter Try.func72, Try.ntmps72
        go_wp2
        go_ret
        exact ⟨by first | (simp; done) | (simp; omega), by repeat (first | exact Below.refl _ _ | apply below_alloc)⟩
    · have c1' : decide (-8388608 ≤ i) = false := by simpa using c1
      go_enter Try.func72, Try.ntmps72
      go_wp2
      go_ret
      exact ⟨by first | (simp; done) | (simp; omega), by repeat (first | exact Below.refl _ _ | apply below_alloc)⟩

theorem bcell {W w1 : World} (hb : Below W.heap.size W w1) : (∀ b o, b < W.heap.size → w1.cell? ⟨b, o, none⟩ = W.cell? ⟨b, o, none⟩) ∧ (∀ b o, b < W.heap.size → w1.frozen? ⟨b, o, none⟩ = W.frozen? ⟨b, o, none⟩) :=
  ⟨fun b o h => hb.cell (p := ⟨b, o, none⟩) h, fun b o h => hb.frozen (p := ⟨b, o, none⟩) h⟩

theorem im_of {op p bits lo hi : Int} {sd sa sb sign is : Bool} (h : Cl op p sd sa sb bits sign is lo hi) (h46 : op ≠ 46) : Im bits sign lo hi := by
  unfold Im
  rcases h with ⟨_, rfl, rfl, rfl, rfl, rfl, rfl, rfl, rfl, rfl⟩ | ⟨_, rfl, rfl, rfl, rfl, rfl, rfl, rfl, rfl, rfl⟩ | ⟨_, rfl, rfl, rfl, rfl, rfl, rfl, rfl, rfl, rfl⟩ | ⟨_, rfl, rfl, rfl, rfl, rfl, rfl, rfl, rfl, rfl⟩ | ⟨_, rfl, rfl, rfl, rfl, rfl, rfl, rfl, rfl, rfl⟩ | ⟨_, rfl, rfl, rfl, rfl, rfl, rfl, rfl, rfl, rfl⟩ | ⟨_, rfl, rfl, rfl, rfl, rfl, rfl, rfl, rfl, rfl⟩ | ⟨_, rfl, rfl, rfl, rfl, rfl, rfl, rfl, rfl, rfl⟩ | ⟨_, rfl, rfl, rfl, rfl, rfl, rfl, rfl, rfl, rfl⟩ | ⟨h, rfl, rfl, rfl, rfl, rfl, rfl, rfl, rfl, rfl⟩ | ⟨_, rfl, rfl, rfl, rfl, rfl, rfl, rfl, rfl, rfl⟩
  all_goals first | (exact absurd h h46) | simp

set_option maxHeartbeats 4000000 in
set_option maxRecDepth 100000 in
/-- Behind the test of a trap's kind: the parts, one by one. -/
theorem may_on (k : Nat) (op d a b i bits lo hi : Int) (sd sa sb sign is v : Bool) (w : World) (h0 : -2147483648 ≤ i) (h1 : i ≤ 2147483647)
    (hs : Aside0 (crucibleref02_shaped.f k op = some (sd, sa, sb, bits, sign, is))) (H : Im bits sign lo hi) (h46 : (op == 46) = false ∨ ((op == 46) = true ∧ decide (i < 1) = false ∧ decide (5 < i) = false))
    (hv : ok d a b i sd sa sb is lo hi = v) :
    Calls Try.prog 65 #[.agg #[.int .i64 op, .int .i64 d, .int .i64 a, .int .i64 b, .int .i32 i]] w fun e w' => e = .returned (.bool v) ∧ Below w.heap.size w w' := by
  subst hv
  unfold ok
  rcases h46 with e46 | ⟨e46, t1, t2⟩
  all_goals
    cases is with
    | false =>
      go_enter Try.func65, Try.ntmps65
      go_wp2_with fail
      (with_reducible refine (crucibleref02_shaped.calls k op _ _ _ _ _ _ _ hs.out).mono ?_)
      rintro e w1 ⟨rfl, hb⟩
      obtain ⟨hc, hf⟩ := bcell hb
      have hz : w.heap.size < w1.heap.size := by have := hb.size; simp at this; omega
      go_wp2
      go_ret
      refine ⟨by simp, ?_⟩
      have hb1 : Below w.heap.size w w1 := (below_alloc (Below.refl _ _) _).trans (hb.mono (by simp))
      exact below_alloc hb1 _
    | true =>
      cases hd0 : rg d sd with
      | false =>
        have hd := Lib.hid hd0; clear hd0
        go_enter Try.func65, Try.ntmps65
        go_wp2_with fail
        (with_reducible refine (crucibleref02_shaped.calls k op _ _ _ _ _ _ _ hs.out).mono ?_)
        rintro e w1 ⟨rfl, hb⟩
        obtain ⟨hc, hf⟩ := bcell hb
        have hz : w.heap.size < w1.heap.size := by have := hb.size; simp at this; omega
        go_wp2_with fail
        (with_reducible refine (reg d sd false _ hd.out).mono ?_)
        rintro e w' ⟨rfl, rfl⟩
        go_wp2
        go_ret
        refine ⟨by simp [hd.out], ?_⟩
        have hb1 : Below w.heap.size w w1 := (below_alloc (Below.refl _ _) _).trans (hb.mono (by simp))
        exact below_alloc hb1 _
      | true =>
        have hd := Lib.hid hd0; clear hd0
        cases ha0 : rg a sa with
        | false =>
          have ha := Lib.hid ha0; clear ha0
          go_enter Try.func65, Try.ntmps65
          go_wp2_with fail
          (with_reducible refine (crucibleref02_shaped.calls k op _ _ _ _ _ _ _ hs.out).mono ?_)
          rintro e w1 ⟨rfl, hb⟩
          obtain ⟨hc, hf⟩ := bcell hb
          have hz : w.heap.size < w1.heap.size := by have := hb.size; simp at this; omega
          go_wp2_with fail
          (with_reducible refine (reg d sd true _ hd.out).mono ?_)
          rintro e w' ⟨rfl, rfl⟩
          go_wp2_with fail
          (with_reducible refine (reg a sa false _ ha.out).mono ?_)
          rintro e w' ⟨rfl, rfl⟩
          go_wp2
          go_ret
          refine ⟨by simp [hd.out, ha.out], ?_⟩
          have hb1 : Below w.heap.size w w1 := (below_alloc (Below.refl _ _) _).trans (hb.mono (by simp))
          exact below_alloc hb1 _
        | true =>
          have ha := Lib.hid ha0; clear ha0
          cases hr0 : rg b sb with
          | false =>
            have hr := Lib.hid hr0; clear hr0
            go_enter Try.func65, Try.ntmps65
            go_wp2_with fail
            (with_reducible refine (crucibleref02_shaped.calls k op _ _ _ _ _ _ _ hs.out).mono ?_)
            rintro e w1 ⟨rfl, hb⟩
            obtain ⟨hc, hf⟩ := bcell hb
            have hz : w.heap.size < w1.heap.size := by have := hb.size; simp at this; omega
            go_wp2_with fail
            (with_reducible refine (reg d sd true _ hd.out).mono ?_)
            rintro e w' ⟨rfl, rfl⟩
            go_wp2_with fail
            (with_reducible refine (reg a sa true _ ha.out).mono ?_)
            rintro e w' ⟨rfl, rfl⟩
            go_wp2_with fail
            (with_reducible refine (reg b sb false _ hr.out).mono ?_)
            rintro e w' ⟨rfl, rfl⟩
            go_wp2
            go_ret
            refine ⟨by simp [hd.out, ha.out, hr.out], ?_⟩
            have hb1 : Below w.heap.size w w1 := (below_alloc (Below.refl _ _) _).trans (hb.mono (by simp))
            exact below_alloc hb1 _
          | true =>
            have hr := Lib.hid hr0; clear hr0
            generalize hv0 : (decide (lo ≤ i) && decide (i ≤ hi)) = v
            have hv := Lib.hid hv0; clear hv0
            go_enter Try.func65, Try.ntmps65
            go_wp2_with fail
            (with_reducible refine (crucibleref02_shaped.calls k op _ _ _ _ _ _ _ hs.out).mono ?_)
            rintro e w1 ⟨rfl, hb⟩
            obtain ⟨hc, hf⟩ := bcell hb
            have hz : w.heap.size < w1.heap.size := by have := hb.size; simp at this; omega
            go_wp2_with fail
            (with_reducible refine (reg d sd true _ hd.out).mono ?_)
            rintro e w' ⟨rfl, rfl⟩
            go_wp2_with fail
            (with_reducible refine (reg a sa true _ ha.out).mono ?_)
            rintro e w' ⟨rfl, rfl⟩
            go_wp2_with fail
            (with_reducible refine (reg b sb true _ hr.out).mono ?_)
            rintro e w' ⟨rfl, rfl⟩
            go_wp2_with fail
            (with_reducible refine (imm op d a b i bits lo hi sd sa sb sign true v _ h0 h1 H hv.out).mono ?_)
            rintro e w2 ⟨rfl, hb2⟩
            go_wp2
            go_ret
            refine ⟨by simp [hd.out, ha.out, hr.out], ?_⟩
            have hb1 : Below w.heap.size w w1 := (below_alloc (Below.refl _ _) _).trans (hb.mono (by simp))
            exact below_then (below_alloc hb1 _) (by simp; omega) hb2

end Go.Proofs.Ytbhkfdjofopfkaa.RefIsa
