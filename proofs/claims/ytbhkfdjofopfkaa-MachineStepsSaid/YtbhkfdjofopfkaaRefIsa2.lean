/- The reference of layer 2, on: which instructions may be, their words, words' instructions. -/
import Derived.Test.YtbhkfdjofopfkaaRefIsa
namespace Go.Proofs.Ytbhkfdjofopfkaa.RefIsa
open Go.RowKit Go.Proofs.Ytbhkfdjofopfkaa.PMachineSteps Go.Proofs.Ytbhkfdjofopfkaa.FactsDec Go.Proofs.YtbhkfdjofopfkaaW.PrintWords Go.Proofs.YtbhkfdjofopfkaaW.PrintLast
set_option linter.unusedVariables false
set_option linter.unusedSimpArgs false

set_option maxHeartbeats 4000000 in
set_option maxRecDepth 100000 in
/-- A trap of a kind that is none. -/
theorem may_trap (k : Nat) (op d a b i bits : Int) (sd sa sb sign is : Bool) (w : World)
    (hs : Aside0 (crucibleref02_shaped.f k op = some (sd, sa, sb, bits, sign, is))) (e46 : (op == 46) = true) (h : decide (i < 1) = true ∨ (decide (i < 1) = false ∧ decide (5 < i) = true)) :
    Calls Try.prog 65 #[.agg #[.int .i64 op, .int .i64 d, .int .i64 a, .int .i64 b, .int .i32 i]] w fun e w' => e = .returned (.bool false) ∧ Below w.heap.size w w' := by
  rcases h with h | ⟨h, h2⟩
  all_goals
    go_enter Try.func65, Try.ntmps65
    go_wp2_with fail
    (with_reducible refine (crucibleref02_shaped.calls k op _ _ _ _ _ _ _ hs.out).mono ?_)
    rintro e w1 ⟨rfl, hb⟩
    obtain ⟨hc, hf⟩ := bcell hb
    have hz : w.heap.size < w1.heap.size := by have := hb.size; simp at this; omega
    go_wp2
    go_ret
    refine ⟨by simp, ?_⟩
    have hb1 : Below w.heap.size w w1 := (below_alloc (Below.refl _ _) _).trans (hb.mono (by simp))
    exact below_alloc hb1 _

section
variable {op p bits lo hi : Int} {sd sa sb sign is : Bool}

theorem ok_trap (d a b i : Int) (h1 : 1 ≤ i) (h2 : i ≤ 5) : ok d a b i sd sa sb is 0 65535 = ok d a b i sd sa sb is 1 5 := by
  unfold ok
  simp [h1, h2, show (0 : Int) ≤ i by omega, show i ≤ 65535 by omega]

theorem may (d a b i : Int) (w : World) (h0 : -2147483648 ≤ i) (h1 : i ≤ 2147483647) (h : Cl op p sd sa sb bits sign is lo hi) :
    Calls Try.prog 65 #[.agg #[.int .i64 op, .int .i64 d, .int .i64 a, .int .i64 b, .int .i32 i]] w fun e w' => e = .returned (.bool (ok d a b i sd sa sb is lo hi)) ∧ Below w.heap.size w w' := by
  have hs := Aside0.mk (shaped 0 h)
  by_cases h46 : op = 46
  · subst h46
    have e : sd = false ∧ sa = false ∧ sb = false ∧ bits = 16 ∧ sign = false ∧ is = true ∧ lo = 1 ∧ hi = 5 := by
      rcases h with ⟨h, _⟩ | ⟨h, _⟩ | ⟨h, _⟩ | ⟨h, _⟩ | ⟨h, _⟩ | ⟨h, _⟩ | ⟨h, _⟩ | ⟨h, _⟩ | ⟨h, _⟩ | ⟨_, _, rfl, rfl, rfl, rfl, rfl, rfl, rfl, rfl⟩ | ⟨h, _⟩
      all_goals first | exact ⟨rfl, rfl, rfl, rfl, rfl, rfl, rfl, rfl⟩ | (exfalso; omega)
    obtain ⟨rfl, rfl, rfl, rfl, rfl, rfl, rfl, rfl⟩ := e
    by_cases t1 : i < 1
    · have e : ok d a b i false false false true 1 5 = false := by unfold ok; simp; omega
      rw [e]
      exact may_trap _ 46 d a b i _ _ _ _ _ _ w hs rfl (.inl (decide_eq_true t1))
    · by_cases t2 : 5 < i
      · have e : ok d a b i false false false true 1 5 = false := by unfold ok; simp; omega
        rw [e]
        exact may_trap _ 46 d a b i _ _ _ _ _ _ w hs rfl (.inr ⟨decide_eq_false t1, decide_eq_true t2⟩)
      · exact may_on _ 46 d a b i 16 0 65535 _ _ _ _ _ _ w h0 h1 hs (by simp [Im]) (.inr ⟨rfl, decide_eq_false t1, decide_eq_false t2⟩) (ok_trap d a b i (by omega) (by omega))
  · exact may_on _ op d a b i bits lo hi _ _ _ _ _ _ w h0 h1 hs (im_of h h46) (.inl (beq_eq_false_iff_ne.2 h46)) rfl


set_option maxHeartbeats 4000000 in
set_option maxRecDepth 100000 in
theorem encNo (d a b i : Int) (w : World) (h0 : -2147483648 ≤ i) (h1 : i ≤ 2147483647) (h : Cl op p sd sa sb bits sign is lo hi) (hok : ¬ ok d a b i sd sa sb is lo hi = true) :
    Calls Try.prog 48 #[.agg #[.int .i64 op, .int .i64 d, .int .i64 a, .int .i64 b, .int .i32 i]] w fun e w' => e = .returned (.tuple #[.int .u32 0, .int .i64 1]) ∧ Below w.heap.size w w' := by
  have hm := Lib.hid fun w => may d a b i w h0 h1 h
  rw [Bool.not_eq_true] at hok
  rw [hok] at hm
  clear h hok
  go_enter Try.func48, Try.ntmps48
  go_wp2_with fail
  (with_reducible refine (hm.out _).mono ?_)
  rintro e w1 ⟨rfl, hb⟩
  go_wp2
  go_ret2
  exact ⟨by simp, (below_alloc (Below.refl _ _) _).trans (hb.mono (by simp))⟩

theorem cl_out (h : Cl op p sd sa sb bits sign is lo hi) (hi' : is = true) : 0 ≤ op ∧ op < 256 ∧ (bits = 0 → lo = 0 ∧ hi = 0) ∧ (bits = 16 → sb = false) ∧ (bits = 24 → sd = false ∧ sa = false ∧ sb = false) := by
  rcases h with ⟨_, rfl, rfl, rfl, rfl, rfl, rfl, rfl, rfl, rfl⟩ | ⟨_, rfl, rfl, rfl, rfl, rfl, rfl, rfl, rfl, rfl⟩ | ⟨_, rfl, rfl, rfl, rfl, rfl, rfl, rfl, rfl, rfl⟩ | ⟨_, rfl, rfl, rfl, rfl, rfl, rfl, rfl, rfl, rfl⟩ | ⟨_, rfl, rfl, rfl, rfl, rfl, rfl, rfl, rfl, rfl⟩ | ⟨_, rfl, rfl, rfl, rfl, rfl, rfl, rfl, rfl, rfl⟩ | ⟨_, rfl, rfl, rfl, rfl, rfl, rfl, rfl, rfl, rfl⟩ | ⟨_, rfl, rfl, rfl, rfl, rfl, rfl, rfl, rfl, rfl⟩ | ⟨_, rfl, rfl, rfl, rfl, rfl, rfl, rfl, rfl, rfl⟩ | ⟨_, rfl, rfl, rfl, rfl, rfl, rfl, rfl, rfl, rfl⟩ | ⟨_, rfl, rfl, rfl, rfl, rfl, rfl, rfl, rfl, rfl⟩
  all_goals first | (exact absurd hi' (by decide)) | exact ⟨by omega, by omega, by simp, by simp, by simp⟩

set_option maxHeartbeats 4000000 in
set_option maxRecDepth 100000 in
theorem enc (d a b i : Int) (w : World) (h0 : -2147483648 ≤ i) (h1 : i ≤ 2147483647) (h : Cl op p sd sa sb bits sign is lo hi) (hok : ok d a b i sd sa sb is lo hi = true) :
    Calls Try.prog 48 #[.agg #[.int .i64 op, .int .i64 d, .int .i64 a, .int .i64 b, .int .i32 i]] w fun e w' => e = .returned (.tuple #[.int .u32 (E op d a b i bits), .int .i64 0]) ∧ Below w.heap.size w w' := by
  have hm := Lib.hid fun w => may d a b i w h0 h1 h
  have hs := Lib.hid fun w => crucibleref02_shaped.calls 7 op _ _ _ _ _ _ w (shaped 0 h)
  rw [hok] at hm
  have hb3 : bits = 0 ∨ bits = 16 ∨ bits = 24 := by
    rcases h with ⟨_, _, _, _, _, rfl, _⟩ | ⟨_, _, _, _, _, rfl, _⟩ | ⟨_, _, _, _, _, rfl, _⟩ | ⟨_, _, _, _, _, rfl, _⟩ | ⟨_, _, _, _, _, rfl, _⟩ | ⟨_, _, _, _, _, rfl, _⟩ | ⟨_, _, _, _, _, rfl, _⟩ | ⟨_, _, _, _, _, rfl, _⟩ | ⟨_, _, _, _, _, rfl, _⟩ | ⟨_, _, _, _, _, rfl, _⟩ | ⟨_, _, _, _, _, rfl, _⟩ <;> simp
  have hE : ∀ v, v = E op d a b i bits → Ending.returned (.tuple #[.int .u32 v, .int .i64 0]) = Ending.returned (.tuple #[.int .u32 (E op d a b i bits), .int .i64 0]) := fun v h => by rw [h]
  have hE' := Lib.hid hE; clear hE
  have hx : Hid (Cl op p sd sa sb bits sign is lo hi ∧ ok d a b i sd sa sb is lo hi = true) := Lib.hid ⟨h, hok⟩
  clear h hok
  rcases hb3 with rfl | rfl | rfl
  all_goals
    go_enter Try.func48, Try.ntmps48
    go_wp2_with fail
    (with_reducible refine (hm.out _).mono ?_)
    rintro e w1 ⟨rfl, hb⟩
    obtain ⟨hc, hf⟩ := bcell hb
    have hz : w.heap.size < w1.heap.size := by have := hb.size; simp at this; omega
    go_wp2_with fail
    (with_reducible refine (hs.out _).mono ?_)
    rintro e w2 ⟨rfl, hb2⟩
    obtain ⟨hc2, hf2⟩ := bcell hb2
    have hz2 : w.heap.size < w2.heap.size := Nat.lt_of_lt_of_le hz hb2.size
    go_wp2
    go_ret2
    have hb1 : Below w.heap.size w w1 := (below_alloc (Below.refl _ _) _).trans (hb.mono (by simp))
    refine ⟨?_, below_alloc (below_then hb1 (by omega) hb2) _⟩
    refine hE'.out _ ?_
    obtain ⟨h, hok⟩ := hx.out
    obtain ⟨his, ⟨d1, d2, d3⟩, ⟨a1, a2, a3⟩, ⟨b1, b2, b3⟩, i1, i2⟩ := ok_out hok
    obtain ⟨o1, o2, o3, o4, o5⟩ := cl_out h his
    rw [or4 _ d a b (by omega) (by omega) d1 d2 a1 a2 b1 b2]
  · have := o3 rfl
    unfold E
    simp only [show ¬ (0 : Int) = 24 by omega, if_false]
    omega
  · obtain hb0 := b3 (o4 rfl)
    rw [and_low _ (by omega) (by omega), or_add _ _ 65536 16 (by decide) (by omega) (by omega) (by omega) (by omega) (by omega) (by omega)]
    unfold E
    simp only [show ¬ (16 : Int) = 24 by omega, if_false]
    omega
  · obtain ⟨e1, e2, e3⟩ := o5 rfl
    have hb0 := b3 e3; have ha0 := a3 e2; have hd0 := d3 e1
    rw [and_far _ (by omega) (by omega), or_add _ _ 16777216 24 (by decide) (by omega) (by omega) (by omega) (by omega) (by omega) (by omega)]
    unfold E
    simp only [if_true]
    omega
end

end Go.Proofs.Ytbhkfdjofopfkaa.RefIsa
