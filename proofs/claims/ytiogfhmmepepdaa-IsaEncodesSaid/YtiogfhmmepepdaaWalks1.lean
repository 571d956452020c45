/- The laws of layer 2 that speak of instructions' words: their walks. -/
import Derived.Test.YtiogfhmmepepdaaRefIsa4
namespace Go.Proofs.Ytiogfhmmepepdaa.Walks1
open Go.RowKit Go.Proofs.Ytiogfhmmepepdaa.PIsaDecodes Go.Proofs.Ytiogfhmmepepdaa.FactsDec Go.Proofs.Ytiogfhmmepepdaa.RefIsa Go.Proofs.YtiogfhmmepepdaaW.PrintWords Go.Proofs.YtiogfhmmepepdaaW.PrintLast Go.Proofs.YtiogfhmmepepdaaW.PrintMore
set_option linter.unusedVariables false
set_option linter.unusedSimpArgs false

theorem awake_some (k : Nat) : cruciblelaw02_awake.f (k + 7) = some true := by
  have h := isaEnc k 1 2 3 0 (op := 1) (.inl ⟨⟨by omega, by omega⟩, rfl, rfl, rfl, rfl, rfl, rfl, rfl, rfl, rfl⟩) (by decide)
  unfold cruciblelaw02_awake.f
  rw [h]
  decide

section
variable {op p bits lo hi : Int} {sd sa sb sign is : Bool}

set_option maxHeartbeats 4000000 in
set_option maxRecDepth 100000 in
theorem encodes (d a b i v c : Int) (w : World)
    (h1 : Aside0 (isa_Encode.f 7 op d a b i = some (v, c))) (h2 : Aside0 (isa_Check.f 7 op d a b i = some c))
    (h3 : Hid (∀ w, Calls Try.prog 8 #[.agg #[.int .i64 op, .int .i64 d, .int .i64 a, .int .i64 b, .int .i32 i]] w fun e w' => e = .returned (.tuple #[.int .u32 v, .int .i64 c]) ∧ Below w.heap.size w w'))
    (h4 : Hid (∀ w, Calls Try.prog 10 #[.agg #[.int .i64 op, .int .i64 d, .int .i64 a, .int .i64 b, .int .i32 i]] w fun e w' => e = .returned (.int .i64 c) ∧ Below w.heap.size w w')) :
    Calls Try.prog 3 #[.agg #[.int .i64 op, .int .i64 d, .int .i64 a, .int .i64 b, .int .i32 i]] w fun e w' => e = .returned (.bool true) ∧ Below w.heap.size w w' := by
  have ha := Aside0.mk (awake_some 0)
  go_enter Try.func3, Try.ntmps3
  go_wp2_with fail
  (with_reducible refine (isa_Encode.calls 7 op d a b i _ _ _ h1.out).mono ?_)
  rintro e w1 ⟨rfl, hb⟩
  obtain ⟨hc, hf⟩ := bcell hb
  have hz : w.heap.size < w1.heap.size := by have := hb.size; simp at this; omega
  have hb1 : Aside0 (Below w.heap.size w w1) := ⟨(below_alloc (Below.refl _ _) _).trans (hb.mono (by simp))⟩
  clear hb
  go_wp2_with fail
  (with_reducible refine (h3.out _).mono ?_)
  rintro e w2 ⟨rfl, hb⟩
  obtain ⟨hc2, hf2⟩ := bcell hb
  have hz2 : w.heap.size < w2.heap.size := Nat.lt_of_lt_of_le hz hb.size
  have hb2 : Aside0 (Below w.heap.size w w2) := ⟨below_then hb1.out (by omega) hb⟩
  clear hb hb1
  have hz2' : w.heap.size ≤ w2.heap.size := Nat.le_of_lt hz2
  have hB := hb2.out
  have f0 : w2.cell? ⟨w.heap.size, 0, none⟩ = some (.int .i64 op) := by rw [hc2 _ _ hz, hc _ _ (by simp)]; simp [go_sem]
  have f1 : w2.cell? ⟨w.heap.size, 1, none⟩ = some (.int .i64 d) := by rw [hc2 _ _ hz, hc _ _ (by simp)]; simp [go_sem]
  have f2 : w2.cell? ⟨w.heap.size, 2, none⟩ = some (.int .i64 a) := by rw [hc2 _ _ hz, hc _ _ (by simp)]; simp [go_sem]
  have f3 : w2.cell? ⟨w.heap.size, 3, none⟩ = some (.int .i64 b) := by rw [hc2 _ _ hz, hc _ _ (by simp)]; simp [go_sem]
  have f4 : w2.cell? ⟨w.heap.size, 4, none⟩ = some (.int .i32 i) := by rw [hc2 _ _ hz, hc _ _ (by simp)]; simp [go_sem]
  clear hc hc2 hf hf2
  go_wp2_with fail
  go_region_held3 (fun w' => Below w.heap.size w w' ∧ w.heap.size < w'.heap.size ∧ w'.cell? ⟨w.heap.size, 0, none⟩ = some (.int .i64 op) ∧ w'.cell? ⟨w.heap.size, 1, none⟩ = some (.int .i64 d) ∧ w'.cell? ⟨w.heap.size, 2, none⟩ = some (.int .i64 a) ∧ w'.cell? ⟨w.heap.size, 3, none⟩ = some (.int .i64 b) ∧ w'.cell? ⟨w.heap.size, 4, none⟩ = some (.int .i32 i))
    (first | exact ⟨below_drew hB, hz2, f0, f1, f2, f3, f4⟩ | (go_split_ands; exact ⟨below_then ‹_› (Nat.le_of_lt ‹_›) ‹_›, Nat.lt_of_lt_of_le ‹_› (Below.size ‹_›), by rw [Below.cell ‹_› ‹_›]; assumption, by rw [Below.cell ‹_› ‹_›]; assumption, by rw [Below.cell ‹_› ‹_›]; assumption, by rw [Below.cell ‹_› ‹_›]; assumption, by rw [Below.cell ‹_› ‹_›]; assumption⟩))
    (first | (go_at_call 9; refine (isa_Check.calls 7 op d a b i _ _ h2.out).mono ?_; rintro e w' ⟨rfl, hb⟩) | (go_at_call 10; refine (h4.out _).mono ?_; rintro e w' ⟨rfl, hb⟩) | (go_at_call 11; refine (cruciblelaw02_awake.calls 7 true _ ha.out).mono ?_; rintro e w' ⟨rfl, hb⟩))
  go_split_ands
  go_wp2
  go_ret
  exact ⟨rfl, by assumption⟩

theorem IsaEncodes (op d a b i : Int) (w : World) (i0 : -2147483648 ≤ i) (i1 : i ≤ 2147483647) :
    Calls Try.prog 3 #[.agg #[.int .i64 op, .int .i64 d, .int .i64 a, .int .i64 b, .int .i32 i]] w fun e w' => e = .returned (.bool true) ∧ Below w.heap.size w w' := by
  obtain ⟨p, sd, sa, sb, bits, sign, is, lo, hi, h⟩ := cl op
  have hc := FactsDec.check 0 d a b i h
  have hc' := fun w => RefIsa.check d a b i w i0 i1 h
  by_cases hok : ok d a b i sd sa sb is lo hi = true
  · rw [if_pos hok] at hc
    simp only [if_pos hok] at hc'
    exact encodes d a b i _ 0 w ⟨isaEnc 0 d a b i h hok⟩ ⟨hc⟩ (fun w => enc d a b i w i0 i1 h hok) hc'
  · rw [if_neg hok] at hc
    simp only [if_neg hok] at hc'
    exact encodes d a b i 0 1 w ⟨isaEncNo 0 d a b i h hok⟩ ⟨hc⟩ (fun w => encNo d a b i w i0 i1 h hok) hc'

set_option maxHeartbeats 4000000 in
set_option maxRecDepth 100000 in
theorem decodes (x r1 r2 r3 r4 r5 r6 : Int) (w : World)
    (h1 : Aside0 (isa_Decode.f 10 x = some (r1, r2, r3, r4, r5, r6)))
    (h3 : Hid (∀ w, Calls Try.prog 13 #[.int .u32 x] w fun e w' => e = .returned (.tuple #[.agg #[.int .i64 r1, .int .i64 r2, .int .i64 r3, .int .i64 r4, .int .i32 r5], .int .i64 r6]) ∧ Below w.heap.size w w')) :
    Calls Try.prog 4 #[.int .u32 x] w fun e w' => e = .returned (.bool true) ∧ Below w.heap.size w w' := by
  have ha := Aside0.mk (awake_some 0)
  go_enter Try.func4, Try.ntmps4
  go_wp2_with fail
  (with_reducible refine (isa_Decode.calls 10 x _ _ _ _ _ _ _ h1.out).mono ?_)
  rintro e w1 ⟨rfl, hb⟩
  obtain ⟨hc, hf⟩ := bcell hb
  have hb1 : Aside0 (Below w.heap.size w w1) := ⟨hb⟩
  have hz : w.heap.size ≤ w1.heap.size := hb.size
  clear hb
  go_wp2_with fail
  (with_reducible refine (h3.out _).mono ?_)
  rintro e w2 ⟨rfl, hb⟩
  obtain ⟨hc2, hf2⟩ := bcell hb
  have hb2 : Aside0 (Below w.heap.size w w2) := ⟨below_then (by repeat (with_reducible first | exact hb1.out | refine below_alloc ?_ _)) (by simp; omega) hb⟩
  have hz1 : w1.heap.size < w2.heap.size := by have := hb.size; simp at this; omega
  clear hb
  go_wp2_with fail
  (with_reducible refine (cruciblelaw02_awake.calls 7 true _ ha.out).mono ?_)
  rintro e w3 ⟨rfl, hb⟩
  have hb3 : Aside0 (Below w.heap.size w w3) := ⟨below_then (below_alloc hb2.out _) (by simp; have := hb2.out.size; omega) hb⟩
  go_wp2
  go_ret
  exact ⟨rfl, hb3.out⟩

theorem IsaDecodes (x : Int) (w : World) (x0 : 0 ≤ x) (x1 : x < 4294967296) :
    Calls Try.prog 4 #[.int .u32 x] w fun e w' => e = .returned (.bool true) ∧ Below w.heap.size w w' := by
  obtain ⟨p, sd, sa, sb, bits, sign, is, lo, hi, h⟩ := cl (x / 16777216)
  have hd := isaDec 0 x x0 x1 h
  have hr := fun w => RefIsa.decode x w x0 x1 h
  unfold Six at hr
  exact decodes x _ _ _ _ _ _ w ⟨hd⟩ hr

/-- An instruction that may be is read back out of its word. -/
theorem dec_E (d a b i : Int) (h : Cl op p sd sa sb bits sign is lo hi) (hok : ok d a b i sd sa sb is lo hi = true) :
    0 ≤ E op d a b i bits ∧ E op d a b i bits < 4294967296 ∧ E op d a b i bits / 16777216 = op ∧ dec (E op d a b i bits) op sd sa sb bits sign is lo hi = (op, d, a, b, i, 0) := by
  obtain ⟨his, ⟨d1, d2, d3⟩, ⟨a1, a2, a3⟩, ⟨b1, b2, b3⟩, i1, i2⟩ := ok_out hok
  have key : 0 ≤ E op d a b i bits ∧ E op d a b i bits < 4294967296 ∧ E op d a b i bits / 16777216 = op ∧ fld (E op d a b i bits) sd 1048576 = d ∧ fld (E op d a b i bits) sa 65536 = a ∧ fld (E op d a b i bits) sb 4096 = b ∧ im (E op d a b i bits) bits sign = i := by
    unfold E fld im
    rcases h with ⟨h0, rfl, rfl, rfl, rfl, rfl, rfl, rfl, rfl, rfl⟩ | ⟨h0, rfl, rfl, rfl, rfl, rfl, rfl, rfl, rfl, rfl⟩ | ⟨h0, rfl, rfl, rfl, rfl, rfl, rfl, rfl, rfl, rfl⟩ | ⟨h0, rfl, rfl, rfl, rfl, rfl, rfl, rfl, rfl, rfl⟩ | ⟨h0, rfl, rfl, rfl, rfl, rfl, rfl, rfl, rfl, rfl⟩ | ⟨h0, rfl, rfl, rfl, rfl, rfl, rfl, rfl, rfl, rfl⟩ | ⟨h0, rfl, rfl, rfl, rfl, rfl, rfl, rfl, rfl, rfl⟩ | ⟨h0, rfl, rfl, rfl, rfl, rfl, rfl, rfl, rfl, rfl⟩ | ⟨h0, rfl, rfl, rfl, rfl, rfl, rfl, rfl, rfl, rfl⟩ | ⟨h0, rfl, rfl, rfl, rfl, rfl, rfl, rfl, rfl, rfl⟩ | ⟨h0, rfl, rfl, rfl, rfl, rfl, rfl, rfl, rfl, rfl⟩
    all_goals first | (exact absurd his (by decide)) | skip
    all_goals (try have d4 := d3 rfl) <;> (try have a4 := a3 rfl) <;> (try have b4 := b3 rfl)
    all_goals simp only [if_true, if_false, Bool.false_eq_true, z0, z1, z2, z3, b_16, show ((0 : Int) = 24) = False by simp]
    all_goals refine ⟨by omega, by omega, by omega, by omega, by omega, by omega, ?_⟩
    all_goals (repeat' split) <;> omega
  obtain ⟨k0, k1, k2, k3, k4, k5, k6⟩ := key
  refine ⟨k0, k1, k2, ?_⟩
  unfold dec
  rw [k3, k4, k5, k6, if_pos ⟨hok, rfl⟩]

end
end Go.Proofs.Ytiogfhmmepepdaa.Walks1
