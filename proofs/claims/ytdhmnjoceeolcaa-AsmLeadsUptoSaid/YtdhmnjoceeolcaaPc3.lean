/- In the code each line's instruction stands where it belongs, and each branch leads to its label, where what it reads is not too much. -/
import Derived.Test.YtdhmnjoceeolcaaRows
import Derived.WalkKit
import Derived.ProofKit
import Derived.OpenShut
import Derived.ShutString
import Derived.ChangeOld
import Derived.Below
import Derived.SizedLaws
import Derived.Carry
import Derived.JoinedCond
import Derived.Test.YtdhmnjoceeolcaaPc2
section
namespace Go.Proofs.Ytdhmnjoceeolcaa.RefIsa
open Go.RowKit Go.Proofs.Ytdhmnjoceeolcaa.GF Go.Proofs.Ytdhmnjoceeolcaa.FactsDec Go.Proofs.YtdhmnjoceeolcaaW.PrintWords Go.Proofs.YtdhmnjoceeolcaaW.PrintLast Go.Proofs.YtdhmnjoceeolcaaW.PrintMore
set_option linter.unusedVariables false
set_option linter.unusedSimpArgs false
set_option maxHeartbeats 4000000 in
set_option maxRecDepth 100000 in
/-- A trap of a kind that is none. -/
theorem may_trap (k : Nat) (op d a b i bits : Int) (sd sa sb sign is : Bool) (w : World)
    (hs : Aside0 (crucibleref02_shaped.f k op = some (sd, sa, sb, bits, sign, is))) (e46 : (op == 46) = true) (h : decide (i < 1) = true ∨ (decide (i < 1) = false ∧ decide (5 < i) = true)) :
    Calls Try.prog 34 #[.agg #[.int .i64 op, .int .i64 d, .int .i64 a, .int .i64 b, .int .i32 i]] w fun e w' => e = .returned (.bool false) ∧ Below w.heap.size w w' := by
  rcases h with h | ⟨h, h2⟩
  all_goals
    go_enter Try.func34, Try.ntmps34
    go_wp2_with fail
    (with_reducible refine (crucibleref02_shaped.calls k op _ _ _ _ _ _ _ hs.out).mono ?_)
    rintro e w1 ⟨rfl, hb⟩
    obtain ⟨hc, hf⟩ := bcell hb
    have hz : w.heap.size < w1.heap.size := by have := hb.size; simp at this; omega
    go_wp2
    go_ret
    refine ⟨by simp, ?_⟩
    have hb1 : Below w.heap.size w w1 := (below_alloc (Below.refl _ _) _).trans (hb.mono (by simp))
    exact below_alloc hb1 _
section
variable {op p bits lo hi : Int} {sd sa sb sign is : Bool}
theorem ok_trap (d a b i : Int) (h1 : 1 ≤ i) (h2 : i ≤ 5) : ok d a b i sd sa sb is 0 65535 = ok d a b i sd sa sb is 1 5 := by
  unfold ok
  simp [h1, h2, show (0 : Int) ≤ i by omega, show i ≤ 65535 by omega]
theorem may (d a b i : Int) (w : World) (h0 : -2147483648 ≤ i) (h1 : i ≤ 2147483647) (h : Cl op p sd sa sb bits sign is lo hi) :
    Calls Try.prog 34 #[.agg #[.int .i64 op, .int .i64 d, .int .i64 a, .int .i64 b, .int .i32 i]] w fun e w' => e = .returned (.bool (ok d a b i sd sa sb is lo hi)) ∧ Below w.heap.size w w' := by
  have hs := Aside0.mk (shaped 0 h)
  by_cases h46 : op = 46
  · subst h46
    have e : sd = false ∧ sa = false ∧ sb = false ∧ bits = 16 ∧ sign = false ∧ is = true ∧ lo = 1 ∧ hi = 5 := by
      rcases h with ⟨h, _⟩ | ⟨h, _⟩ | ⟨h, _⟩ | ⟨h, _⟩ | ⟨h, _⟩ | ⟨h, _⟩ | ⟨h, _⟩ | ⟨h, _⟩ | ⟨h, _⟩ | ⟨_, _, rfl, rfl, rfl, rfl, rfl, rfl, rfl, rfl⟩ | ⟨h, _⟩
      all_goals first | exact ⟨rfl, rfl, rfl, rfl, rfl, rfl, rfl, rfl⟩ | (exfalso; omega)
    obtain ⟨rfl, rfl, rfl, rfl, rfl, rfl, rfl, rfl⟩ := e
    by_cases t1 : i < 1
    · have e : ok d a b i false false false true 1 5 = false := by unfold ok; simp; omega
      rw [e]
      exact may_trap _ 46 d a b i _ _ _ _ _ _ w hs rfl (.inl (decide_eq_true t1))
    · by_cases t2 : 5 < i
      · have e : ok d a b i false false false true 1 5 = false := by unfold ok; simp; omega
        rw [e]
        exact may_trap _ 46 d a b i _ _ _ _ _ _ w hs rfl (.inr ⟨decide_eq_false t1, decide_eq_true t2⟩)
      · exact may_on _ 46 d a b i 16 0 65535 _ _ _ _ _ _ w h0 h1 hs (by simp [Im]) (.inr ⟨rfl, decide_eq_false t1, decide_eq_false t2⟩) (ok_trap d a b i (by omega) (by omega))
  · exact may_on _ op d a b i bits lo hi _ _ _ _ _ _ w h0 h1 hs (im_of h h46) (.inl (beq_eq_false_iff_ne.2 h46)) rfl
set_option maxHeartbeats 4000000 in
set_option maxRecDepth 100000 in
theorem encNo (d a b i : Int) (w : World) (h0 : -2147483648 ≤ i) (h1 : i ≤ 2147483647) (h : Cl op p sd sa sb bits sign is lo hi) (hok : ¬ ok d a b i sd sa sb is lo hi = true) :
    Calls Try.prog 32 #[.agg #[.int .i64 op, .int .i64 d, .int .i64 a, .int .i64 b, .int .i32 i]] w fun e w' => e = .returned (.tuple #[.int .u32 0, .int .i64 1]) ∧ Below w.heap.size w w' := by
  have hm := Lib.hid fun w => may d a b i w h0 h1 h
  rw [Bool.not_eq_true] at hok
  rw [hok] at hm
  clear h hok
  go_enter Try.func32, Try.ntmps32
  go_wp2_with fail
  (with_reducible refine (hm.out _).mono ?_)
  rintro e w1 ⟨rfl, hb⟩
  go_wp2
  go_ret2
  exact ⟨by simp, (below_alloc (Below.refl _ _) _).trans (hb.mono (by simp))⟩
theorem cl_out (h : Cl op p sd sa sb bits sign is lo hi) (hi' : is = true) : 0 ≤ op ∧ op < 256 ∧ (bits = 0 → lo = 0 ∧ hi = 0) ∧ (bits = 16 → sb = false) ∧ (bits = 24 → sd = false ∧ sa = false ∧ sb = false) := by
  rcases h with ⟨_, rfl, rfl, rfl, rfl, rfl, rfl, rfl, rfl, rfl⟩ | ⟨_, rfl, rfl, rfl, rfl, rfl, rfl, rfl, rfl, rfl⟩ | ⟨_, rfl, rfl, rfl, rfl, rfl, rfl, rfl, rfl, rfl⟩ | ⟨_, rfl, rfl, rfl, rfl, rfl, rfl, rfl, rfl, rfl⟩ | ⟨_, rfl, rfl, rfl, rfl, rfl, rfl, rfl, rfl, rfl⟩ | ⟨_, rfl, rfl, rfl, rfl, rfl, rfl, rfl, rfl, rfl⟩ | ⟨_, rfl, rfl, rfl, rfl, rfl, rfl, rfl, rfl, rfl⟩ | ⟨_, rfl, rfl, rfl, rfl, rfl, rfl, rfl, rfl, rfl⟩ | ⟨_, rfl, rfl, rfl, rfl, rfl, rfl, rfl, rfl, rfl⟩ | ⟨_, rfl, rfl, rfl, rfl, rfl, rfl, rfl, rfl, rfl⟩ | ⟨_, rfl, rfl, rfl, rfl, rfl, rfl, rfl, rfl, rfl⟩
  all_goals first | (exact absurd hi' (by decide)) | exact ⟨by omega, by omega, by simp, by simp, by simp⟩
set_option maxHeartbeats 4000000 in
set_option maxRecDepth 100000 in
theorem enc (d a b i : Int) (w : World) (h0 : -2147483648 ≤ i) (h1 : i ≤ 2147483647) (h : Cl op p sd sa sb bits sign is lo hi) (hok : ok d a b i sd sa sb is lo hi = true) :
    Calls Try.prog 32 #[.agg #[.int .i64 op, .int .i64 d, .int .i64 a, .int .i64 b, .int .i32 i]] w fun e w' => e = .returned (.tuple #[.int .u32 (E op d a b i bits), .int .i64 0]) ∧ Below w.heap.size w w' := by
  have hm := Lib.hid fun w => may d a b i w h0 h1 h
  have hs := Lib.hid fun w => crucibleref02_shaped.calls 7 op _ _ _ _ _ _ w (shaped 0 h)
  rw [hok] at hm
  have hb3 : bits = 0 ∨ bits = 16 ∨ bits = 24 := by
    rcases h with ⟨_, _, _, _, _, rfl, _⟩ | ⟨_, _, _, _, _, rfl, _⟩ | ⟨_, _, _, _, _, rfl, _⟩ | ⟨_, _, _, _, _, rfl, _⟩ | ⟨_, _, _, _, _, rfl, _⟩ | ⟨_, _, _, _, _, rfl, _⟩ | ⟨_, _, _, _, _, rfl, _⟩ | ⟨_, _, _, _, _, rfl, _⟩ | ⟨_, _, _, _, _, rfl, _⟩ | ⟨_, _, _, _, _, rfl, _⟩ | ⟨_, _, _, _, _, rfl, _⟩ <;> simp
  have hE : ∀ v, v = E op d a b i bits → Ending.returned (.tuple #[.int .u32 v, .int .i64 0]) = Ending.returned (.tuple #[.int .u32 (E op d a b i bits), .int .i64 0]) := fun v h => by rw [h]
  have hE' := Lib.hid hE; clear hE
  have hx : Hid (Cl op p sd sa sb bits sign is lo hi ∧ ok d a b i sd sa sb is lo hi = true) := Lib.hid ⟨h, hok⟩
  clear h hok
  rcases hb3 with rfl | rfl | rfl
  all_goals
    go_enter Try.func32, Try.ntmps32
    go_wp2_with fail
    (with_reducible refine (hm.out _).mono ?_)
    rintro e w1 ⟨rfl, hb⟩
    obtain ⟨hc, hf⟩ := bcell hb
    have hz : w.heap.size < w1.heap.size := by have := hb.size; simp at this; omega
    go_wp2_with fail
    (with_reducible refine (hs.out _).mono ?_)
    rintro e w2 ⟨rfl, hb2⟩
    obtain ⟨hc2, hf2⟩ := bcell hb2
    have hz2 : w.heap.size < w2.heap.size := Nat.lt_of_lt_of_le hz hb2.size
    go_wp2
    go_ret2
    have hb1 : Below w.heap.size w w1 := (below_alloc (Below.refl _ _) _).trans (hb.mono (by simp))
    refine ⟨?_, below_alloc (below_then hb1 (by omega) hb2) _⟩
    refine hE'.out _ ?_
    obtain ⟨h, hok⟩ := hx.out
    obtain ⟨his, ⟨d1, d2, d3⟩, ⟨a1, a2, a3⟩, ⟨b1, b2, b3⟩, i1, i2⟩ := ok_out hok
    obtain ⟨o1, o2, o3, o4, o5⟩ := cl_out h his
    rw [or4 _ d a b (by omega) (by omega) d1 d2 a1 a2 b1 b2]
  · have := o3 rfl
    unfold E
    simp only [show ¬ (0 : Int) = 24 by omega, if_false]
    omega
  · obtain hb0 := b3 (o4 rfl)
    rw [and_low _ (by omega) (by omega), or_add _ _ 65536 16 (by decide) (by omega) (by omega) (by omega) (by omega) (by omega) (by omega)]
    unfold E
    simp only [show ¬ (16 : Int) = 24 by omega, if_false]
    omega
  · obtain ⟨e1, e2, e3⟩ := o5 rfl
    have hb0 := b3 e3; have ha0 := a3 e2; have hd0 := d3 e1
    rw [and_far _ (by omega) (by omega), or_add _ _ 16777216 24 (by decide) (by omega) (by omega) (by omega) (by omega) (by omega) (by omega)]
    unfold E
    simp only [if_true]
    omega
end
end Go.Proofs.Ytdhmnjoceeolcaa.RefIsa
end
section
namespace Go.Proofs.Ytdhmnjoceeolcaa.RefIsa
open Go.RowKit Go.Proofs.Ytdhmnjoceeolcaa.GF Go.Proofs.Ytdhmnjoceeolcaa.FactsDec Go.Proofs.YtdhmnjoceeolcaaW.PrintWords Go.Proofs.YtdhmnjoceeolcaaW.PrintLast Go.Proofs.YtdhmnjoceeolcaaW.PrintMore
set_option linter.unusedVariables false
set_option linter.unusedSimpArgs false
set_option maxHeartbeats 8000000 in
set_option maxRecDepth 100000 in
theorem decA (k : Nat) (w v c r1 r2 r3 r4 r5 r6 : Int) (is : Bool) (W : World) (w0 : 0 ≤ w) (w1 : w < 4294967296)
    (hs : Aside0 (crucibleref02_shaped.f k (w / 16777216) = some (true, true, true, 0, false, is)))
    (he : Hid (∀ W, Calls Try.prog 32 #[.agg #[.int .i64 (w / 16777216), .int .i64 (wrap64 (bits .and .u32 (w / 1048576) 15)), .int .i64 (wrap64 (bits .and .u32 (w / 65536) 15)), .int .i64 (wrap64 (bits .and .u32 (w / 4096) 15)), .int .i32 (0)]] W fun e w' => e = .returned (.tuple #[.int .u32 v, .int .i64 c]) ∧ Below W.heap.size W w'))
    (ho : (c = 1 ∧ r1 = 0 ∧ r2 = 0 ∧ r3 = 0 ∧ r4 = 0 ∧ r5 = 0 ∧ r6 = 1) ∨ (c = 0 ∧ (v == w) = false ∧ r1 = 0 ∧ r2 = 0 ∧ r3 = 0 ∧ r4 = 0 ∧ r5 = 0 ∧ r6 = 1) ∨ (c = 0 ∧ (v == w) = true ∧ r1 = w / 16777216 ∧ r2 = wrap64 (bits .and .u32 (w / 1048576) 15) ∧ r3 = wrap64 (bits .and .u32 (w / 65536) 15) ∧ r4 = wrap64 (bits .and .u32 (w / 4096) 15) ∧ r5 = 0 ∧ r6 = 0)) :
    Calls Try.prog 35 #[.int .u32 w] W fun e w' => e = .returned (.tuple #[.agg #[.int .i64 r1, .int .i64 r2, .int .i64 r3, .int .i64 r4, .int .i32 r5], .int .i64 r6]) ∧ Below W.heap.size W w' := by
  rcases ho with ⟨rfl, rfl, rfl, rfl, rfl, rfl, rfl⟩ | ⟨rfl, hv, rfl, rfl, rfl, rfl, rfl, rfl⟩ | ⟨rfl, hv, rfl, rfl, rfl, rfl, rfl, rfl⟩
  all_goals
    go_enter Try.func35, Try.ntmps35
    go_wp2_with fail
    (with_reducible refine (crucibleref02_shaped.calls k (w / 16777216) _ _ _ _ _ _ _ hs.out).mono ?_)
    rintro e W1 ⟨rfl, hb⟩
    obtain ⟨hc, hf⟩ := bcell hb
    have hz1 : W.heap.size + 1 < W1.heap.size := by have := hb.size; simp at this; omega
    have hz : W.heap.size < W1.heap.size := by omega
    have hb1 := Aside0.mk ((below_alloc (below_alloc (Below.refl W.heap.size W) _) _).trans (hb.mono (by simp; omega)))
    have hk1 : Aside0 (W1.heap[W.heap.size]? = some (.cells #[.int .i64 0, .int .i64 0, .int .i64 0, .int .i64 0, .int .i32 0] 24 (0, 0))) := ⟨blk_below (blk_alloc (blk_new W _) _) hb⟩
    clear hb
    go_wp2_with fail
    (with_reducible refine (he.out _).mono ?_)
    rintro e W2 ⟨rfl, hb2⟩
    obtain ⟨hc2, hf2⟩ := bcell hb2
    have hz3 : W1.heap.size < W2.heap.size := by have := hb2.size; simp at this; omega
    have hz4 : W.heap.size + 1 < W2.heap.size := by omega
    have hz5 : W.heap.size < W2.heap.size := by omega
    have hb3 : Aside0 (Below W.heap.size W W2) := ⟨below_then (by repeat (with_reducible first | exact hb1.out | refine below_alloc ?_ _ | refine Below.setCell ?_ (by simp) _)) (by simp; omega) hb2⟩
    have hk : Aside0 (W2.heap[W.heap.size]? = some (.cells #[.int .i64 0, .int .i64 0, .int .i64 0, .int .i64 0, .int .i32 0] 24 (0, 0))) := ⟨blk_below (by repeat (with_reducible first | exact hk1.out | refine blk_alloc ?_ _ | refine blk_far ?_ (by simp) _)) hb2⟩
    clear hb2
    go_wp2
    refine bodyPost_ret (results_ct rfl _ _ W.heap.size 24 #[.int .i64 _, .int .i64 _, .int .i64 _, .int .i64 _, .int .i32 _] (0, 0) _ rfl (blk_put (blk_put (blk_put (blk_put (blk_put hk.out 0 _ rfl) 1 _ rfl) 2 _ rfl) 3 _ rfl) 4 _ rfl) Try.underlying24 rfl (by kernel_rfl)) rfl ⟨rfl, ?_⟩
    repeat (with_reducible first | exact hb3.out | refine below_alloc ?_ _ | refine Below.setCell ?_ (by simp) _)
set_option maxHeartbeats 8000000 in
set_option maxRecDepth 100000 in
theorem decBp (k : Nat) (w v c r1 r2 r3 r4 r5 r6 : Int) (is : Bool) (W : World) (w0 : 0 ≤ w) (w1 : w < 4294967296)
    (hs : Aside0 (crucibleref02_shaped.f k (w / 16777216) = some (true, true, false, 16, true, is)))
    (hn : decide (32768 ≤ wrap64 (bits .and .u32 w 65535)) = false)
    (he : Hid (∀ W, Calls Try.prog 32 #[.agg #[.int .i64 (w / 16777216), .int .i64 (wrap64 (bits .and .u32 (w / 1048576) 15)), .int .i64 (wrap64 (bits .and .u32 (w / 65536) 15)), .int .i64 (0), .int .i32 (wrap32 (wrap64 (bits .and .u32 w 65535)))]] W fun e w' => e = .returned (.tuple #[.int .u32 v, .int .i64 c]) ∧ Below W.heap.size W w'))
    (ho : (c = 1 ∧ r1 = 0 ∧ r2 = 0 ∧ r3 = 0 ∧ r4 = 0 ∧ r5 = 0 ∧ r6 = 1) ∨ (c = 0 ∧ (v == w) = false ∧ r1 = 0 ∧ r2 = 0 ∧ r3 = 0 ∧ r4 = 0 ∧ r5 = 0 ∧ r6 = 1) ∨ (c = 0 ∧ (v == w) = true ∧ r1 = w / 16777216 ∧ r2 = wrap64 (bits .and .u32 (w / 1048576) 15) ∧ r3 = wrap64 (bits .and .u32 (w / 65536) 15) ∧ r4 = 0 ∧ r5 = wrap32 (wrap64 (bits .and .u32 w 65535)) ∧ r6 = 0)) :
    Calls Try.prog 35 #[.int .u32 w] W fun e w' => e = .returned (.tuple #[.agg #[.int .i64 r1, .int .i64 r2, .int .i64 r3, .int .i64 r4, .int .i32 r5], .int .i64 r6]) ∧ Below W.heap.size W w' := by
  rcases ho with ⟨rfl, rfl, rfl, rfl, rfl, rfl, rfl⟩ | ⟨rfl, hv, rfl, rfl, rfl, rfl, rfl, rfl⟩ | ⟨rfl, hv, rfl, rfl, rfl, rfl, rfl, rfl⟩
  all_goals
    go_enter Try.func35, Try.ntmps35
    go_wp2_with fail
    (with_reducible refine (crucibleref02_shaped.calls k (w / 16777216) _ _ _ _ _ _ _ hs.out).mono ?_)
    rintro e W1 ⟨rfl, hb⟩
    obtain ⟨hc, hf⟩ := bcell hb
    have hz1 : W.heap.size + 1 < W1.heap.size := by have := hb.size; simp at this; omega
    have hz : W.heap.size < W1.heap.size := by omega
    have hb1 := Aside0.mk ((below_alloc (below_alloc (Below.refl W.heap.size W) _) _).trans (hb.mono (by simp; omega)))
    have hk1 : Aside0 (W1.heap[W.heap.size]? = some (.cells #[.int .i64 0, .int .i64 0, .int .i64 0, .int .i64 0, .int .i32 0] 24 (0, 0))) := ⟨blk_below (blk_alloc (blk_new W _) _) hb⟩
    clear hb
    go_wp2_with fail
    (with_reducible refine (he.out _).mono ?_)
    rintro e W2 ⟨rfl, hb2⟩
    obtain ⟨hc2, hf2⟩ := bcell hb2
    have hz3 : W1.heap.size < W2.heap.size := by have := hb2.size; simp at this; omega
    have hz4 : W.heap.size + 1 < W2.heap.size := by omega
    have hz5 : W.heap.size < W2.heap.size := by omega
    have hb3 : Aside0 (Below W.heap.size W W2) := ⟨below_then (by repeat (with_reducible first | exact hb1.out | refine below_alloc ?_ _ | refine Below.setCell ?_ (by simp) _)) (by simp; omega) hb2⟩
    have hk : Aside0 (W2.heap[W.heap.size]? = some (.cells #[.int .i64 0, .int .i64 0, .int .i64 0, .int .i64 0, .int .i32 0] 24 (0, 0))) := ⟨blk_below (by repeat (with_reducible first | exact hk1.out | refine blk_alloc ?_ _ | refine blk_far ?_ (by simp) _)) hb2⟩
    clear hb2
    go_wp2
    refine bodyPost_ret (results_ct rfl _ _ W.heap.size 24 #[.int .i64 _, .int .i64 _, .int .i64 _, .int .i64 _, .int .i32 _] (0, 0) _ rfl (blk_put (blk_put (blk_put (blk_put (blk_put hk.out 0 _ rfl) 1 _ rfl) 2 _ rfl) 3 _ rfl) 4 _ rfl) Try.underlying24 rfl (by kernel_rfl)) rfl ⟨rfl, ?_⟩
    repeat (with_reducible first | exact hb3.out | refine below_alloc ?_ _ | refine Below.setCell ?_ (by simp) _)
set_option maxHeartbeats 8000000 in
set_option maxRecDepth 100000 in
theorem decBn (k : Nat) (w v c r1 r2 r3 r4 r5 r6 : Int) (is : Bool) (W : World) (w0 : 0 ≤ w) (w1 : w < 4294967296)
    (hs : Aside0 (crucibleref02_shaped.f k (w / 16777216) = some (true, true, false, 16, true, is)))
    (hn : decide (32768 ≤ wrap64 (bits .and .u32 w 65535)) = true)
    (he : Hid (∀ W, Calls Try.prog 32 #[.agg #[.int .i64 (w / 16777216), .int .i64 (wrap64 (bits .and .u32 (w / 1048576) 15)), .int .i64 (wrap64 (bits .and .u32 (w / 65536) 15)), .int .i64 (0), .int .i32 (wrap32 (wrap64 (wrap64 (bits .and .u32 w 65535) - 65536)))]] W fun e w' => e = .returned (.tuple #[.int .u32 v, .int .i64 c]) ∧ Below W.heap.size W w'))
    (ho : (c = 1 ∧ r1 = 0 ∧ r2 = 0 ∧ r3 = 0 ∧ r4 = 0 ∧ r5 = 0 ∧ r6 = 1) ∨ (c = 0 ∧ (v == w) = false ∧ r1 = 0 ∧ r2 = 0 ∧ r3 = 0 ∧ r4 = 0 ∧ r5 = 0 ∧ r6 = 1) ∨ (c = 0 ∧ (v == w) = true ∧ r1 = w / 16777216 ∧ r2 = wrap64 (bits .and .u32 (w / 1048576) 15) ∧ r3 = wrap64 (bits .and .u32 (w / 65536) 15) ∧ r4 = 0 ∧ r5 = wrap32 (wrap64 (wrap64 (bits .and .u32 w 65535) - 65536)) ∧ r6 = 0)) :
    Calls Try.prog 35 #[.int .u32 w] W fun e w' => e = .returned (.tuple #[.agg #[.int .i64 r1, .int .i64 r2, .int .i64 r3, .int .i64 r4, .int .i32 r5], .int .i64 r6]) ∧ Below W.heap.size W w' := by
  rcases ho with ⟨rfl, rfl, rfl, rfl, rfl, rfl, rfl⟩ | ⟨rfl, hv, rfl, rfl, rfl, rfl, rfl, rfl⟩ | ⟨rfl, hv, rfl, rfl, rfl, rfl, rfl, rfl⟩
  all_goals
    go_enter Try.func35, Try.ntmps35
    go_wp2_with fail
    (with_reducible refine (crucibleref02_shaped.calls k (w / 16777216) _ _ _ _ _ _ _ hs.out).mono ?_)
    rintro e W1 ⟨rfl, hb⟩
    obtain ⟨hc, hf⟩ := bcell hb
    have hz1 : W.heap.size + 1 < W1.heap.size := by have := hb.size; simp at this; omega
    have hz : W.heap.size < W1.heap.size := by omega
    have hb1 := Aside0.mk ((below_alloc (below_alloc (Below.refl W.heap.size W) _) _).trans (hb.mono (by simp; omega)))
    have hk1 : Aside0 (W1.heap[W.heap.size]? = some (.cells #[.int .i64 0, .int .i64 0, .int .i64 0, .int .i64 0, .int .i32 0] 24 (0, 0))) := ⟨blk_below (blk_alloc (blk_new W _) _) hb⟩
    clear hb
    go_wp2_with fail
    (with_reducible refine (he.out _).mono ?_)
    rintro e W2 ⟨rfl, hb2⟩
    obtain ⟨hc2, hf2⟩ := bcell hb2
    have hz3 : W1.heap.size < W2.heap.size := by have := hb2.size; simp at this; omega
    have hz4 : W.heap.size + 1 < W2.heap.size := by omega
    have hz5 : W.heap.size < W2.heap.size := by omega
    have hb3 : Aside0 (Below W.heap.size W W2) := ⟨below_then (by repeat (with_reducible first | exact hb1.out | refine below_alloc ?_ _ | refine Below.setCell ?_ (by simp) _)) (by simp; omega) hb2⟩
    have hk : Aside0 (W2.heap[W.heap.size]? = some (.cells #[.int .i64 0, .int .i64 0, .int .i64 0, .int .i64 0, .int .i32 0] 24 (0, 0))) := ⟨blk_below (by repeat (with_reducible first | exact hk1.out | refine blk_alloc ?_ _ | refine blk_far ?_ (by simp) _)) hb2⟩
    clear hb2
    go_wp2
    refine bodyPost_ret (results_ct rfl _ _ W.heap.size 24 #[.int .i64 _, .int .i64 _, .int .i64 _, .int .i64 _, .int .i32 _] (0, 0) _ rfl (blk_put (blk_put (blk_put (blk_put (blk_put hk.out 0 _ rfl) 1 _ rfl) 2 _ rfl) 3 _ rfl) 4 _ rfl) Try.underlying24 rfl (by kernel_rfl)) rfl ⟨rfl, ?_⟩
    repeat (with_reducible first | exact hb3.out | refine below_alloc ?_ _ | refine Below.setCell ?_ (by simp) _)
set_option maxHeartbeats 8000000 in
set_option maxRecDepth 100000 in
theorem decCp (k : Nat) (w v c r1 r2 r3 r4 r5 r6 : Int) (is : Bool) (W : World) (w0 : 0 ≤ w) (w1 : w < 4294967296)
    (hs : Aside0 (crucibleref02_shaped.f k (w / 16777216) = some (true, false, false, 16, true, is)))
    (hn : decide (32768 ≤ wrap64 (bits .and .u32 w 65535)) = false)
    (he : Hid (∀ W, Calls Try.prog 32 #[.agg #[.int .i64 (w / 16777216), .int .i64 (wrap64 (bits .and .u32 (w / 1048576) 15)), .int .i64 (0), .int .i64 (0), .int .i32 (wrap32 (wrap64 (bits .and .u32 w 65535)))]] W fun e w' => e = .returned (.tuple #[.int .u32 v, .int .i64 c]) ∧ Below W.heap.size W w'))
    (ho : (c = 1 ∧ r1 = 0 ∧ r2 = 0 ∧ r3 = 0 ∧ r4 = 0 ∧ r5 = 0 ∧ r6 = 1) ∨ (c = 0 ∧ (v == w) = false ∧ r1 = 0 ∧ r2 = 0 ∧ r3 = 0 ∧ r4 = 0 ∧ r5 = 0 ∧ r6 = 1) ∨ (c = 0 ∧ (v == w) = true ∧ r1 = w / 16777216 ∧ r2 = wrap64 (bits .and .u32 (w / 1048576) 15) ∧ r3 = 0 ∧ r4 = 0 ∧ r5 = wrap32 (wrap64 (bits .and .u32 w 65535)) ∧ r6 = 0)) :
    Calls Try.prog 35 #[.int .u32 w] W fun e w' => e = .returned (.tuple #[.agg #[.int .i64 r1, .int .i64 r2, .int .i64 r3, .int .i64 r4, .int .i32 r5], .int .i64 r6]) ∧ Below W.heap.size W w' := by
  rcases ho with ⟨rfl, rfl, rfl, rfl, rfl, rfl, rfl⟩ | ⟨rfl, hv, rfl, rfl, rfl, rfl, rfl, rfl⟩ | ⟨rfl, hv, rfl, rfl, rfl, rfl, rfl, rfl⟩
  all_goals
    go_enter Try.func35, Try.ntmps35
    go_wp2_with fail
    (with_reducible refine (crucibleref02_shaped.calls k (w / 16777216) _ _ _ _ _ _ _ hs.out).mono ?_)
    rintro e W1 ⟨rfl, hb⟩
    obtain ⟨hc, hf⟩ := bcell hb
    have hz1 : W.heap.size + 1 < W1.heap.size := by have := hb.size; simp at this; omega
    have hz : W.heap.size < W1.heap.size := by omega
    have hb1 := Aside0.mk ((below_alloc (below_alloc (Below.refl W.heap.size W) _) _).trans (hb.mono (by simp; omega)))
    have hk1 : Aside0 (W1.heap[W.heap.size]? = some (.cells #[.int .i64 0, .int .i64 0, .int .i64 0, .int .i64 0, .int .i32 0] 24 (0, 0))) := ⟨blk_below (blk_alloc (blk_new W _) _) hb⟩
    clear hb
    go_wp2_with fail
    (with_reducible refine (he.out _).mono ?_)
    rintro e W2 ⟨rfl, hb2⟩
    obtain ⟨hc2, hf2⟩ := bcell hb2
    have hz3 : W1.heap.size < W2.heap.size := by have := hb2.size; simp at this; omega
    have hz4 : W.heap.size + 1 < W2.heap.size := by omega
    have hz5 : W.heap.size < W2.heap.size := by omega
    have hb3 : Aside0 (Below W.heap.size W W2) := ⟨below_then (by repeat (with_reducible first | exact hb1.out | refine below_alloc ?_ _ | refine Below.setCell ?_ (by simp) _)) (by simp; omega) hb2⟩
    have hk : Aside0 (W2.heap[W.heap.size]? = some (.cells #[.int .i64 0, .int .i64 0, .int .i64 0, .int .i64 0, .int .i32 0] 24 (0, 0))) := ⟨blk_below (by repeat (with_reducible first | exact hk1.out | refine blk_alloc ?_ _ | refine blk_far ?_ (by simp) _)) hb2⟩
    clear hb2
    go_wp2
    refine bodyPost_ret (results_ct rfl _ _ W.heap.size 24 #[.int .i64 _, .int .i64 _, .int .i64 _, .int .i64 _, .int .i32 _] (0, 0) _ rfl (blk_put (blk_put (blk_put (blk_put (blk_put hk.out 0 _ rfl) 1 _ rfl) 2 _ rfl) 3 _ rfl) 4 _ rfl) Try.underlying24 rfl (by kernel_rfl)) rfl ⟨rfl, ?_⟩
    repeat (with_reducible first | exact hb3.out | refine below_alloc ?_ _ | refine Below.setCell ?_ (by simp) _)
set_option maxHeartbeats 8000000 in
set_option maxRecDepth 100000 in
theorem decCn (k : Nat) (w v c r1 r2 r3 r4 r5 r6 : Int) (is : Bool) (W : World) (w0 : 0 ≤ w) (w1 : w < 4294967296)
    (hs : Aside0 (crucibleref02_shaped.f k (w / 16777216) = some (true, false, false, 16, true, is)))
    (hn : decide (32768 ≤ wrap64 (bits .and .u32 w 65535)) = true)
    (he : Hid (∀ W, Calls Try.prog 32 #[.agg #[.int .i64 (w / 16777216), .int .i64 (wrap64 (bits .and .u32 (w / 1048576) 15)), .int .i64 (0), .int .i64 (0), .int .i32 (wrap32 (wrap64 (wrap64 (bits .and .u32 w 65535) - 65536)))]] W fun e w' => e = .returned (.tuple #[.int .u32 v, .int .i64 c]) ∧ Below W.heap.size W w'))
    (ho : (c = 1 ∧ r1 = 0 ∧ r2 = 0 ∧ r3 = 0 ∧ r4 = 0 ∧ r5 = 0 ∧ r6 = 1) ∨ (c = 0 ∧ (v == w) = false ∧ r1 = 0 ∧ r2 = 0 ∧ r3 = 0 ∧ r4 = 0 ∧ r5 = 0 ∧ r6 = 1) ∨ (c = 0 ∧ (v == w) = true ∧ r1 = w / 16777216 ∧ r2 = wrap64 (bits .and .u32 (w / 1048576) 15) ∧ r3 = 0 ∧ r4 = 0 ∧ r5 = wrap32 (wrap64 (wrap64 (bits .and .u32 w 65535) - 65536)) ∧ r6 = 0)) :
    Calls Try.prog 35 #[.int .u32 w] W fun e w' => e = .returned (.tuple #[.agg #[.int .i64 r1, .int .i64 r2, .int .i64 r3, .int .i64 r4, .int .i32 r5], .int .i64 r6]) ∧ Below W.heap.size W w' := by
  rcases ho with ⟨rfl, rfl, rfl, rfl, rfl, rfl, rfl⟩ | ⟨rfl, hv, rfl, rfl, rfl, rfl, rfl, rfl⟩ | ⟨rfl, hv, rfl, rfl, rfl, rfl, rfl, rfl⟩
  all_goals
    go_enter Try.func35, Try.ntmps35
    go_wp2_with fail
    (with_reducible refine (crucibleref02_shaped.calls k (w / 16777216) _ _ _ _ _ _ _ hs.out).mono ?_)
    rintro e W1 ⟨rfl, hb⟩
    obtain ⟨hc, hf⟩ := bcell hb
    have hz1 : W.heap.size + 1 < W1.heap.size := by have := hb.size; simp at this; omega
    have hz : W.heap.size < W1.heap.size := by omega
    have hb1 := Aside0.mk ((below_alloc (below_alloc (Below.refl W.heap.size W) _) _).trans (hb.mono (by simp; omega)))
    have hk1 : Aside0 (W1.heap[W.heap.size]? = some (.cells #[.int .i64 0, .int .i64 0, .int .i64 0, .int .i64 0, .int .i32 0] 24 (0, 0))) := ⟨blk_below (blk_alloc (blk_new W _) _) hb⟩
    clear hb
    go_wp2_with fail
    (with_reducible refine (he.out _).mono ?_)
    rintro e W2 ⟨rfl, hb2⟩
    obtain ⟨hc2, hf2⟩ := bcell hb2
    have hz3 : W1.heap.size < W2.heap.size := by have := hb2.size; simp at this; omega
    have hz4 : W.heap.size + 1 < W2.heap.size := by omega
    have hz5 : W.heap.size < W2.heap.size := by omega
    have hb3 : Aside0 (Below W.heap.size W W2) := ⟨below_then (by repeat (with_reducible first | exact hb1.out | refine below_alloc ?_ _ | refine Below.setCell ?_ (by simp) _)) (by simp; omega) hb2⟩
    have hk : Aside0 (W2.heap[W.heap.size]? = some (.cells #[.int .i64 0, .int .i64 0, .int .i64 0, .int .i64 0, .int .i32 0] 24 (0, 0))) := ⟨blk_below (by repeat (with_reducible first | exact hk1.out | refine blk_alloc ?_ _ | refine blk_far ?_ (by simp) _)) hb2⟩
    clear hb2
    go_wp2
    refine bodyPost_ret (results_ct rfl _ _ W.heap.size 24 #[.int .i64 _, .int .i64 _, .int .i64 _, .int .i64 _, .int .i32 _] (0, 0) _ rfl (blk_put (blk_put (blk_put (blk_put (blk_put hk.out 0 _ rfl) 1 _ rfl) 2 _ rfl) 3 _ rfl) 4 _ rfl) Try.underlying24 rfl (by kernel_rfl)) rfl ⟨rfl, ?_⟩
    repeat (with_reducible first | exact hb3.out | refine below_alloc ?_ _ | refine Below.setCell ?_ (by simp) _)
set_option maxHeartbeats 8000000 in
set_option maxRecDepth 100000 in
theorem decD (k : Nat) (w v c r1 r2 r3 r4 r5 r6 : Int) (is : Bool) (W : World) (w0 : 0 ≤ w) (w1 : w < 4294967296)
    (hs : Aside0 (crucibleref02_shaped.f k (w / 16777216) = some (true, false, false, 16, false, is)))
    (he : Hid (∀ W, Calls Try.prog 32 #[.agg #[.int .i64 (w / 16777216), .int .i64 (wrap64 (bits .and .u32 (w / 1048576) 15)), .int .i64 (0), .int .i64 (0), .int .i32 (wrap32 (wrap64 (bits .and .u32 w 65535)))]] W fun e w' => e = .returned (.tuple #[.int .u32 v, .int .i64 c]) ∧ Below W.heap.size W w'))
    (ho : (c = 1 ∧ r1 = 0 ∧ r2 = 0 ∧ r3 = 0 ∧ r4 = 0 ∧ r5 = 0 ∧ r6 = 1) ∨ (c = 0 ∧ (v == w) = false ∧ r1 = 0 ∧ r2 = 0 ∧ r3 = 0 ∧ r4 = 0 ∧ r5 = 0 ∧ r6 = 1) ∨ (c = 0 ∧ (v == w) = true ∧ r1 = w / 16777216 ∧ r2 = wrap64 (bits .and .u32 (w / 1048576) 15) ∧ r3 = 0 ∧ r4 = 0 ∧ r5 = wrap32 (wrap64 (bits .and .u32 w 65535)) ∧ r6 = 0)) :
    Calls Try.prog 35 #[.int .u32 w] W fun e w' => e = .returned (.tuple #[.agg #[.int .i64 r1, .int .i64 r2, .int .i64 r3, .int .i64 r4, .int .i32 r5], .int .i64 r6]) ∧ Below W.heap.size W w' := by
  rcases ho with ⟨rfl, rfl, rfl, rfl, rfl, rfl, rfl⟩ | ⟨rfl, hv, rfl, rfl, rfl, rfl, rfl, rfl⟩ | ⟨rfl, hv, rfl, rfl, rfl, rfl, rfl, rfl⟩
  all_goals
    go_enter Try.func35, Try.ntmps35
    go_wp2_with fail
    (with_reducible refine (crucibleref02_shaped.calls k (w / 16777216) _ _ _ _ _ _ _ hs.out).mono ?_)
    rintro e W1 ⟨rfl, hb⟩
    obtain ⟨hc, hf⟩ := bcell hb
    have hz1 : W.heap.size + 1 < W1.heap.size := by have := hb.size; simp at this; omega
    have hz : W.heap.size < W1.heap.size := by omega
    have hb1 := Aside0.mk ((below_alloc (below_alloc (Below.refl W.heap.size W) _) _).trans (hb.mono (by simp; omega)))
    have hk1 : Aside0 (W1.heap[W.heap.size]? = some (.cells #[.int .i64 0, .int .i64 0, .int .i64 0, .int .i64 0, .int .i32 0] 24 (0, 0))) := ⟨blk_below (blk_alloc (blk_new W _) _) hb⟩
    clear hb
    go_wp2_with fail
    (with_reducible refine (he.out _).mono ?_)
    rintro e W2 ⟨rfl, hb2⟩
    obtain ⟨hc2, hf2⟩ := bcell hb2
    have hz3 : W1.heap.size < W2.heap.size := by have := hb2.size; simp at this; omega
    have hz4 : W.heap.size + 1 < W2.heap.size := by omega
    have hz5 : W.heap.size < W2.heap.size := by omega
    have hb3 : Aside0 (Below W.heap.size W W2) := ⟨below_then (by repeat (with_reducible first | exact hb1.out | refine below_alloc ?_ _ | refine Below.setCell ?_ (by simp) _)) (by simp; omega) hb2⟩
    have hk : Aside0 (W2.heap[W.heap.size]? = some (.cells #[.int .i64 0, .int .i64 0, .int .i64 0, .int .i64 0, .int .i32 0] 24 (0, 0))) := ⟨blk_below (by repeat (with_reducible first | exact hk1.out | refine blk_alloc ?_ _ | refine blk_far ?_ (by simp) _)) hb2⟩
    clear hb2
    go_wp2
    refine bodyPost_ret (results_ct rfl _ _ W.heap.size 24 #[.int .i64 _, .int .i64 _, .int .i64 _, .int .i64 _, .int .i32 _] (0, 0) _ rfl (blk_put (blk_put (blk_put (blk_put (blk_put hk.out 0 _ rfl) 1 _ rfl) 2 _ rfl) 3 _ rfl) 4 _ rfl) Try.underlying24 rfl (by kernel_rfl)) rfl ⟨rfl, ?_⟩
    repeat (with_reducible first | exact hb3.out | refine below_alloc ?_ _ | refine Below.setCell ?_ (by simp) _)
set_option maxHeartbeats 8000000 in
set_option maxRecDepth 100000 in
theorem decEp (k : Nat) (w v c r1 r2 r3 r4 r5 r6 : Int) (is : Bool) (W : World) (w0 : 0 ≤ w) (w1 : w < 4294967296)
    (hs : Aside0 (crucibleref02_shaped.f k (w / 16777216) = some (false, true, false, 16, true, is)))
    (hn : decide (32768 ≤ wrap64 (bits .and .u32 w 65535)) = false)
    (he : Hid (∀ W, Calls Try.prog 32 #[.agg #[.int .i64 (w / 16777216), .int .i64 (0), .int .i64 (wrap64 (bits .and .u32 (w / 65536) 15)), .int .i64 (0), .int .i32 (wrap32 (wrap64 (bits .and .u32 w 65535)))]] W fun e w' => e = .returned (.tuple #[.int .u32 v, .int .i64 c]) ∧ Below W.heap.size W w'))
    (ho : (c = 1 ∧ r1 = 0 ∧ r2 = 0 ∧ r3 = 0 ∧ r4 = 0 ∧ r5 = 0 ∧ r6 = 1) ∨ (c = 0 ∧ (v == w) = false ∧ r1 = 0 ∧ r2 = 0 ∧ r3 = 0 ∧ r4 = 0 ∧ r5 = 0 ∧ r6 = 1) ∨ (c = 0 ∧ (v == w) = true ∧ r1 = w / 16777216 ∧ r2 = 0 ∧ r3 = wrap64 (bits .and .u32 (w / 65536) 15) ∧ r4 = 0 ∧ r5 = wrap32 (wrap64 (bits .and .u32 w 65535)) ∧ r6 = 0)) :
    Calls Try.prog 35 #[.int .u32 w] W fun e w' => e = .returned (.tuple #[.agg #[.int .i64 r1, .int .i64 r2, .int .i64 r3, .int .i64 r4, .int .i32 r5], .int .i64 r6]) ∧ Below W.heap.size W w' := by
  rcases ho with ⟨rfl, rfl, rfl, rfl, rfl, rfl, rfl⟩ | ⟨rfl, hv, rfl, rfl, rfl, rfl, rfl, rfl⟩ | ⟨rfl, hv, rfl, rfl, rfl, rfl, rfl, rfl⟩
  all_goals
    go_enter Try.func35, Try.ntmps35
    go_wp2_with fail
    (with_reducible refine (crucibleref02_shaped.calls k (w / 16777216) _ _ _ _ _ _ _ hs.out).mono ?_)
    rintro e W1 ⟨rfl, hb⟩
    obtain ⟨hc, hf⟩ := bcell hb
    have hz1 : W.heap.size + 1 < W1.heap.size := by have := hb.size; simp at this; omega
    have hz : W.heap.size < W1.heap.size := by omega
    have hb1 := Aside0.mk ((below_alloc (below_alloc (Below.refl W.heap.size W) _) _).trans (hb.mono (by simp; omega)))
    have hk1 : Aside0 (W1.heap[W.heap.size]? = some (.cells #[.int .i64 0, .int .i64 0, .int .i64 0, .int .i64 0, .int .i32 0] 24 (0, 0))) := ⟨blk_below (blk_alloc (blk_new W _) _) hb⟩
    clear hb
    go_wp2_with fail
    (with_reducible refine (he.out _).mono ?_)
    rintro e W2 ⟨rfl, hb2⟩
    obtain ⟨hc2, hf2⟩ := bcell hb2
    have hz3 : W1.heap.size < W2.heap.size := by have := hb2.size; simp at this; omega
    have hz4 : W.heap.size + 1 < W2.heap.size := by omega
    have hz5 : W.heap.size < W2.heap.size := by omega
    have hb3 : Aside0 (Below W.heap.size W W2) := ⟨below_then (by repeat (with_reducible first | exact hb1.out | refine below_alloc ?_ _ | refine Below.setCell ?_ (by simp) _)) (by simp; omega) hb2⟩
    have hk : Aside0 (W2.heap[W.heap.size]? = some (.cells #[.int .i64 0, .int .i64 0, .int .i64 0, .int .i64 0, .int .i32 0] 24 (0, 0))) := ⟨blk_below (by repeat (with_reducible first | exact hk1.out | refine blk_alloc ?_ _ | refine blk_far ?_ (by simp) _)) hb2⟩
    clear hb2
    go_wp2
    refine bodyPost_ret (results_ct rfl _ _ W.heap.size 24 #[.int .i64 _, .int .i64 _, .int .i64 _, .int .i64 _, .int .i32 _] (0, 0) _ rfl (blk_put (blk_put (blk_put (blk_put (blk_put hk.out 0 _ rfl) 1 _ rfl) 2 _ rfl) 3 _ rfl) 4 _ rfl) Try.underlying24 rfl (by kernel_rfl)) rfl ⟨rfl, ?_⟩
    repeat (with_reducible first | exact hb3.out | refine below_alloc ?_ _ | refine Below.setCell ?_ (by simp) _)
set_option maxHeartbeats 8000000 in
set_option maxRecDepth 100000 in
theorem decEn (k : Nat) (w v c r1 r2 r3 r4 r5 r6 : Int) (is : Bool) (W : World) (w0 : 0 ≤ w) (w1 : w < 4294967296)
    (hs : Aside0 (crucibleref02_shaped.f k (w / 16777216) = some (false, true, false, 16, true, is)))
    (hn : decide (32768 ≤ wrap64 (bits .and .u32 w 65535)) = true)
    (he : Hid (∀ W, Calls Try.prog 32 #[.agg #[.int .i64 (w / 16777216), .int .i64 (0), .int .i64 (wrap64 (bits .and .u32 (w / 65536) 15)), .int .i64 (0), .int .i32 (wrap32 (wrap64 (wrap64 (bits .and .u32 w 65535) - 65536)))]] W fun e w' => e = .returned (.tuple #[.int .u32 v, .int .i64 c]) ∧ Below W.heap.size W w'))
    (ho : (c = 1 ∧ r1 = 0 ∧ r2 = 0 ∧ r3 = 0 ∧ r4 = 0 ∧ r5 = 0 ∧ r6 = 1) ∨ (c = 0 ∧ (v == w) = false ∧ r1 = 0 ∧ r2 = 0 ∧ r3 = 0 ∧ r4 = 0 ∧ r5 = 0 ∧ r6 = 1) ∨ (c = 0 ∧ (v == w) = true ∧ r1 = w / 16777216 ∧ r2 = 0 ∧ r3 = wrap64 (bits .and .u32 (w / 65536) 15) ∧ r4 = 0 ∧ r5 = wrap32 (wrap64 (wrap64 (bits .and .u32 w 65535) - 65536)) ∧ r6 = 0)) :
    Calls Try.prog 35 #[.int .u32 w] W fun e w' => e = .returned (.tuple #[.agg #[.int .i64 r1, .int .i64 r2, .int .i64 r3, .int .i64 r4, .int .i32 r5], .int .i64 r6]) ∧ Below W.heap.size W w' := by
  rcases ho with ⟨rfl, rfl, rfl, rfl, rfl, rfl, rfl⟩ | ⟨rfl, hv, rfl, rfl, rfl, rfl, rfl, rfl⟩ | ⟨rfl, hv, rfl, rfl, rfl, rfl, rfl, rfl⟩
  all_goals
    go_enter Try.func35, Try.ntmps35
    go_wp2_with fail
    (with_reducible refine (crucibleref02_shaped.calls k (w / 16777216) _ _ _ _ _ _ _ hs.out).mono ?_)
    rintro e W1 ⟨rfl, hb⟩
    obtain ⟨hc, hf⟩ := bcell hb
    have hz1 : W.heap.size + 1 < W1.heap.size := by have := hb.size; simp at this; omega
    have hz : W.heap.size < W1.heap.size := by omega
    have hb1 := Aside0.mk ((below_alloc (below_alloc (Below.refl W.heap.size W) _) _).trans (hb.mono (by simp; omega)))
    have hk1 : Aside0 (W1.heap[W.heap.size]? = some (.cells #[.int .i64 0, .int .i64 0, .int .i64 0, .int .i64 0, .int .i32 0] 24 (0, 0))) := ⟨blk_below (blk_alloc (blk_new W _) _) hb⟩
    clear hb
    go_wp2_with fail
    (with_reducible refine (he.out _).mono ?_)
    rintro e W2 ⟨rfl, hb2⟩
    obtain ⟨hc2, hf2⟩ := bcell hb2
    have hz3 : W1.heap.size < W2.heap.size := by have := hb2.size; simp at this; omega
    have hz4 : W.heap.size + 1 < W2.heap.size := by omega
    have hz5 : W.heap.size < W2.heap.size := by omega
    have hb3 : Aside0 (Below W.heap.size W W2) := ⟨below_then (by repeat (with_reducible first | exact hb1.out | refine below_alloc ?_ _ | refine Below.setCell ?_ (by simp) _)) (by simp; omega) hb2⟩
    have hk : Aside0 (W2.heap[W.heap.size]? = some (.cells #[.int .i64 0, .int .i64 0, .int .i64 0, .int .i64 0, .int .i32 0] 24 (0, 0))) := ⟨blk_below (by repeat (with_reducible first | exact hk1.out | refine blk_alloc ?_ _ | refine blk_far ?_ (by simp) _)) hb2⟩
    clear hb2
    go_wp2
    refine bodyPost_ret (results_ct rfl _ _ W.heap.size 24 #[.int .i64 _, .int .i64 _, .int .i64 _, .int .i64 _, .int .i32 _] (0, 0) _ rfl (blk_put (blk_put (blk_put (blk_put (blk_put hk.out 0 _ rfl) 1 _ rfl) 2 _ rfl) 3 _ rfl) 4 _ rfl) Try.underlying24 rfl (by kernel_rfl)) rfl ⟨rfl, ?_⟩
    repeat (with_reducible first | exact hb3.out | refine below_alloc ?_ _ | refine Below.setCell ?_ (by simp) _)
set_option maxHeartbeats 8000000 in
set_option maxRecDepth 100000 in
theorem decFp (k : Nat) (w v c r1 r2 r3 r4 r5 r6 : Int) (is : Bool) (W : World) (w0 : 0 ≤ w) (w1 : w < 4294967296)
    (hs : Aside0 (crucibleref02_shaped.f k (w / 16777216) = some (false, false, false, 24, true, is)))
    (hn : decide (8388608 ≤ wrap64 (bits .and .u32 w 16777215)) = false)
    (he : Hid (∀ W, Calls Try.prog 32 #[.agg #[.int .i64 (w / 16777216), .int .i64 (0), .int .i64 (0), .int .i64 (0), .int .i32 (wrap32 (wrap64 (bits .and .u32 w 16777215)))]] W fun e w' => e = .returned (.tuple #[.int .u32 v, .int .i64 c]) ∧ Below W.heap.size W w'))
    (ho : (c = 1 ∧ r1 = 0 ∧ r2 = 0 ∧ r3 = 0 ∧ r4 = 0 ∧ r5 = 0 ∧ r6 = 1) ∨ (c = 0 ∧ (v == w) = false ∧ r1 = 0 ∧ r2 = 0 ∧ r3 = 0 ∧ r4 = 0 ∧ r5 = 0 ∧ r6 = 1) ∨ (c = 0 ∧ (v == w) = true ∧ r1 = w / 16777216 ∧ r2 = 0 ∧ r3 = 0 ∧ r4 = 0 ∧ r5 = wrap32 (wrap64 (bits .and .u32 w 16777215)) ∧ r6 = 0)) :
    Calls Try.prog 35 #[.int .u32 w] W fun e w' => e = .returned (.tuple #[.agg #[.int .i64 r1, .int .i64 r2, .int .i64 r3, .int .i64 r4, .int .i32 r5], .int .i64 r6]) ∧ Below W.heap.size W w' := by
  rcases ho with ⟨rfl, rfl, rfl, rfl, rfl, rfl, rfl⟩ | ⟨rfl, hv, rfl, rfl, rfl, rfl, rfl, rfl⟩ | ⟨rfl, hv, rfl, rfl, rfl, rfl, rfl, rfl⟩
  all_goals
    go_enter Try.func35, Try.ntmps35
    go_wp2_with fail
    (with_reducible refine (crucibleref02_shaped.calls k (w / 16777216) _ _ _ _ _ _ _ hs.out).mono ?_)
    rintro e W1 ⟨rfl, hb⟩
    obtain ⟨hc, hf⟩ := bcell hb
    have hz1 : W.heap.size + 1 < W1.heap.size := by have := hb.size; simp at this; omega
    have hz : W.heap.size < W1.heap.size := by omega
    have hb1 := Aside0.mk ((below_alloc (below_alloc (Below.refl W.heap.size W) _) _).trans (hb.mono (by simp; omega)))
    have hk1 : Aside0 (W1.heap[W.heap.size]? = some (.cells #[.int .i64 0, .int .i64 0, .int .i64 0, .int .i64 0, .int .i32 0] 24 (0, 0))) := ⟨blk_below (blk_alloc (blk_new W _) _) hb⟩
    clear hb
    go_wp2_with fail
    (with_reducible refine (he.out _).mono ?_)
    rintro e W2 ⟨rfl, hb2⟩
    obtain ⟨hc2, hf2⟩ := bcell hb2
    have hz3 : W1.heap.size < W2.heap.size := by have := hb2.size; simp at this; omega
    have hz4 : W.heap.size + 1 < W2.heap.size := by omega
    have hz5 : W.heap.size < W2.heap.size := by omega
    have hb3 : Aside0 (Below W.heap.size W W2) := ⟨below_then (by repeat (with_reducible first | exact hb1.out | refine below_alloc ?_ _ | refine Below.setCell ?_ (by simp) _)) (by simp; omega) hb2⟩
    have hk : Aside0 (W2.heap[W.heap.size]? = some (.cells #[.int .i64 0, .int .i64 0, .int .i64 0, .int .i64 0, .int .i32 0] 24 (0, 0))) := ⟨blk_below (by repeat (with_reducible first | exact hk1.out | refine blk_alloc ?_ _ | refine blk_far ?_ (by simp) _)) hb2⟩
    clear hb2
    go_wp2
    refine bodyPost_ret (results_ct rfl _ _ W.heap.size 24 #[.int .i64 _, .int .i64 _, .int .i64 _, .int .i64 _, .int .i32 _] (0, 0) _ rfl (blk_put (blk_put (blk_put (blk_put (blk_put hk.out 0 _ rfl) 1 _ rfl) 2 _ rfl) 3 _ rfl) 4 _ rfl) Try.underlying24 rfl (by kernel_rfl)) rfl ⟨rfl, ?_⟩
    repeat (with_reducible first | exact hb3.out | refine below_alloc ?_ _ | refine Below.setCell ?_ (by simp) _)
set_option maxHeartbeats 8000000 in
set_option maxRecDepth 100000 in
theorem decFn (k : Nat) (w v c r1 r2 r3 r4 r5 r6 : Int) (is : Bool) (W : World) (w0 : 0 ≤ w) (w1 : w < 4294967296)
    (hs : Aside0 (crucibleref02_shaped.f k (w / 16777216) = some (false, false, false, 24, true, is)))
    (hn : decide (8388608 ≤ wrap64 (bits .and .u32 w 16777215)) = true)
    (he : Hid (∀ W, Calls Try.prog 32 #[.agg #[.int .i64 (w / 16777216), .int .i64 (0), .int .i64 (0), .int .i64 (0), .int .i32 (wrap32 (wrap64 (wrap64 (bits .and .u32 w 16777215) - 16777216)))]] W fun e w' => e = .returned (.tuple #[.int .u32 v, .int .i64 c]) ∧ Below W.heap.size W w'))
    (ho : (c = 1 ∧ r1 = 0 ∧ r2 = 0 ∧ r3 = 0 ∧ r4 = 0 ∧ r5 = 0 ∧ r6 = 1) ∨ (c = 0 ∧ (v == w) = false ∧ r1 = 0 ∧ r2 = 0 ∧ r3 = 0 ∧ r4 = 0 ∧ r5 = 0 ∧ r6 = 1) ∨ (c = 0 ∧ (v == w) = true ∧ r1 = w / 16777216 ∧ r2 = 0 ∧ r3 = 0 ∧ r4 = 0 ∧ r5 = wrap32 (wrap64 (wrap64 (bits .and .u32 w 16777215) - 16777216)) ∧ r6 = 0)) :
    Calls Try.prog 35 #[.int .u32 w] W fun e w' => e = .returned (.tuple #[.agg #[.int .i64 r1, .int .i64 r2, .int .i64 r3, .int .i64 r4, .int .i32 r5], .int .i64 r6]) ∧ Below W.heap.size W w' := by
  rcases ho with ⟨rfl, rfl, rfl, rfl, rfl, rfl, rfl⟩ | ⟨rfl, hv, rfl, rfl, rfl, rfl, rfl, rfl⟩ | ⟨rfl, hv, rfl, rfl, rfl, rfl, rfl, rfl⟩
  all_goals
    go_enter Try.func35, Try.ntmps35
    go_wp2_with fail
    (with_reducible refine (crucibleref02_shaped.calls k (w / 16777216) _ _ _ _ _ _ _ hs.out).mono ?_)
    rintro e W1 ⟨rfl, hb⟩
    obtain ⟨hc, hf⟩ := bcell hb
    have hz1 : W.heap.size + 1 < W1.heap.size := by have := hb.size; simp at this; omega
    have hz : W.heap.size < W1.heap.size := by omega
    have hb1 := Aside0.mk ((below_alloc (below_alloc (Below.refl W.heap.size W) _) _).trans (hb.mono (by simp; omega)))
    have hk1 : Aside0 (W1.heap[W.heap.size]? = some (.cells #[.int .i64 0, .int .i64 0, .int .i64 0, .int .i64 0, .int .i32 0] 24 (0, 0))) := ⟨blk_below (blk_alloc (blk_new W _) _) hb⟩
    clear hb
    go_wp2_with fail
    (with_reducible refine (he.out _).mono ?_)
    rintro e W2 ⟨rfl, hb2⟩
    obtain ⟨hc2, hf2⟩ := bcell hb2
    have hz3 : W1.heap.size < W2.heap.size := by have := hb2.size; simp at this; omega
    have hz4 : W.heap.size + 1 < W2.heap.size := by omega
    have hz5 : W.heap.size < W2.heap.size := by omega
    have hb3 : Aside0 (Below W.heap.size W W2) := ⟨below_then (by repeat (with_reducible first | exact hb1.out | refine below_alloc ?_ _ | refine Below.setCell ?_ (by simp) _)) (by simp; omega) hb2⟩
    have hk : Aside0 (W2.heap[W.heap.size]? = some (.cells #[.int .i64 0, .int .i64 0, .int .i64 0, .int .i64 0, .int .i32 0] 24 (0, 0))) := ⟨blk_below (by repeat (with_reducible first | exact hk1.out | refine blk_alloc ?_ _ | refine blk_far ?_ (by simp) _)) hb2⟩
    clear hb2
    go_wp2
    refine bodyPost_ret (results_ct rfl _ _ W.heap.size 24 #[.int .i64 _, .int .i64 _, .int .i64 _, .int .i64 _, .int .i32 _] (0, 0) _ rfl (blk_put (blk_put (blk_put (blk_put (blk_put hk.out 0 _ rfl) 1 _ rfl) 2 _ rfl) 3 _ rfl) 4 _ rfl) Try.underlying24 rfl (by kernel_rfl)) rfl ⟨rfl, ?_⟩
    repeat (with_reducible first | exact hb3.out | refine below_alloc ?_ _ | refine Below.setCell ?_ (by simp) _)
set_option maxHeartbeats 8000000 in
set_option maxRecDepth 100000 in
theorem decG (k : Nat) (w v c r1 r2 r3 r4 r5 r6 : Int) (is : Bool) (W : World) (w0 : 0 ≤ w) (w1 : w < 4294967296)
    (hs : Aside0 (crucibleref02_shaped.f k (w / 16777216) = some (false, true, false, 0, false, is)))
    (he : Hid (∀ W, Calls Try.prog 32 #[.agg #[.int .i64 (w / 16777216), .int .i64 (0), .int .i64 (wrap64 (bits .and .u32 (w / 65536) 15)), .int .i64 (0), .int .i32 (0)]] W fun e w' => e = .returned (.tuple #[.int .u32 v, .int .i64 c]) ∧ Below W.heap.size W w'))
    (ho : (c = 1 ∧ r1 = 0 ∧ r2 = 0 ∧ r3 = 0 ∧ r4 = 0 ∧ r5 = 0 ∧ r6 = 1) ∨ (c = 0 ∧ (v == w) = false ∧ r1 = 0 ∧ r2 = 0 ∧ r3 = 0 ∧ r4 = 0 ∧ r5 = 0 ∧ r6 = 1) ∨ (c = 0 ∧ (v == w) = true ∧ r1 = w / 16777216 ∧ r2 = 0 ∧ r3 = wrap64 (bits .and .u32 (w / 65536) 15) ∧ r4 = 0 ∧ r5 = 0 ∧ r6 = 0)) :
    Calls Try.prog 35 #[.int .u32 w] W fun e w' => e = .returned (.tuple #[.agg #[.int .i64 r1, .int .i64 r2, .int .i64 r3, .int .i64 r4, .int .i32 r5], .int .i64 r6]) ∧ Below W.heap.size W w' := by
  rcases ho with ⟨rfl, rfl, rfl, rfl, rfl, rfl, rfl⟩ | ⟨rfl, hv, rfl, rfl, rfl, rfl, rfl, rfl⟩ | ⟨rfl, hv, rfl, rfl, rfl, rfl, rfl, rfl⟩
  all_goals
    go_enter Try.func35, Try.ntmps35
    go_wp2_with fail
    (with_reducible refine (crucibleref02_shaped.calls k (w / 16777216) _ _ _ _ _ _ _ hs.out).mono ?_)
    rintro e W1 ⟨rfl, hb⟩
    obtain ⟨hc, hf⟩ := bcell hb
    have hz1 : W.heap.size + 1 < W1.heap.size := by have := hb.size; simp at this; omega
    have hz : W.heap.size < W1.heap.size := by omega
    have hb1 := Aside0.mk ((below_alloc (below_alloc (Below.refl W.heap.size W) _) _).trans (hb.mono (by simp; omega)))
    have hk1 : Aside0 (W1.heap[W.heap.size]? = some (.cells #[.int .i64 0, .int .i64 0, .int .i64 0, .int .i64 0, .int .i32 0] 24 (0, 0))) := ⟨blk_below (blk_alloc (blk_new W _) _) hb⟩
    clear hb
    go_wp2_with fail
    (with_reducible refine (he.out _).mono ?_)
    rintro e W2 ⟨rfl, hb2⟩
    obtain ⟨hc2, hf2⟩ := bcell hb2
    have hz3 : W1.heap.size < W2.heap.size := by have := hb2.size; simp at this; omega
    have hz4 : W.heap.size + 1 < W2.heap.size := by omega
    have hz5 : W.heap.size < W2.heap.size := by omega
    have hb3 : Aside0 (Below W.heap.size W W2) := ⟨below_then (by repeat (with_reducible first | exact hb1.out | refine below_alloc ?_ _ | refine Below.setCell ?_ (by simp) _)) (by simp; omega) hb2⟩
    have hk : Aside0 (W2.heap[W.heap.size]? = some (.cells #[.int .i64 0, .int .i64 0, .int .i64 0, .int .i64 0, .int .i32 0] 24 (0, 0))) := ⟨blk_below (by repeat (with_reducible first | exact hk1.out | refine blk_alloc ?_ _ | refine blk_far ?_ (by simp) _)) hb2⟩
    clear hb2
    go_wp2
    refine bodyPost_ret (results_ct rfl _ _ W.heap.size 24 #[.int .i64 _, .int .i64 _, .int .i64 _, .int .i64 _, .int .i32 _] (0, 0) _ rfl (blk_put (blk_put (blk_put (blk_put (blk_put hk.out 0 _ rfl) 1 _ rfl) 2 _ rfl) 3 _ rfl) 4 _ rfl) Try.underlying24 rfl (by kernel_rfl)) rfl ⟨rfl, ?_⟩
    repeat (with_reducible first | exact hb3.out | refine below_alloc ?_ _ | refine Below.setCell ?_ (by simp) _)
set_option maxHeartbeats 8000000 in
set_option maxRecDepth 100000 in
theorem decH (k : Nat) (w v c r1 r2 r3 r4 r5 r6 : Int) (is : Bool) (W : World) (w0 : 0 ≤ w) (w1 : w < 4294967296)
    (hs : Aside0 (crucibleref02_shaped.f k (w / 16777216) = some (true, false, false, 0, false, is)))
    (he : Hid (∀ W, Calls Try.prog 32 #[.agg #[.int .i64 (w / 16777216), .int .i64 (wrap64 (bits .and .u32 (w / 1048576) 15)), .int .i64 (0), .int .i64 (0), .int .i32 (0)]] W fun e w' => e = .returned (.tuple #[.int .u32 v, .int .i64 c]) ∧ Below W.heap.size W w'))
    (ho : (c = 1 ∧ r1 = 0 ∧ r2 = 0 ∧ r3 = 0 ∧ r4 = 0 ∧ r5 = 0 ∧ r6 = 1) ∨ (c = 0 ∧ (v == w) = false ∧ r1 = 0 ∧ r2 = 0 ∧ r3 = 0 ∧ r4 = 0 ∧ r5 = 0 ∧ r6 = 1) ∨ (c = 0 ∧ (v == w) = true ∧ r1 = w / 16777216 ∧ r2 = wrap64 (bits .and .u32 (w / 1048576) 15) ∧ r3 = 0 ∧ r4 = 0 ∧ r5 = 0 ∧ r6 = 0)) :
    Calls Try.prog 35 #[.int .u32 w] W fun e w' => e = .returned (.tuple #[.agg #[.int .i64 r1, .int .i64 r2, .int .i64 r3, .int .i64 r4, .int .i32 r5], .int .i64 r6]) ∧ Below W.heap.size W w' := by
  rcases ho with ⟨rfl, rfl, rfl, rfl, rfl, rfl, rfl⟩ | ⟨rfl, hv, rfl, rfl, rfl, rfl, rfl, rfl⟩ | ⟨rfl, hv, rfl, rfl, rfl, rfl, rfl, rfl⟩
  all_goals
    go_enter Try.func35, Try.ntmps35
    go_wp2_with fail
    (with_reducible refine (crucibleref02_shaped.calls k (w / 16777216) _ _ _ _ _ _ _ hs.out).mono ?_)
    rintro e W1 ⟨rfl, hb⟩
    obtain ⟨hc, hf⟩ := bcell hb
    have hz1 : W.heap.size + 1 < W1.heap.size := by have := hb.size; simp at this; omega
    have hz : W.heap.size < W1.heap.size := by omega
    have hb1 := Aside0.mk ((below_alloc (below_alloc (Below.refl W.heap.size W) _) _).trans (hb.mono (by simp; omega)))
    have hk1 : Aside0 (W1.heap[W.heap.size]? = some (.cells #[.int .i64 0, .int .i64 0, .int .i64 0, .int .i64 0, .int .i32 0] 24 (0, 0))) := ⟨blk_below (blk_alloc (blk_new W _) _) hb⟩
    clear hb
    go_wp2_with fail
    (with_reducible refine (he.out _).mono ?_)
    rintro e W2 ⟨rfl, hb2⟩
    obtain ⟨hc2, hf2⟩ := bcell hb2
    have hz3 : W1.heap.size < W2.heap.size := by have := hb2.size; simp at this; omega
    have hz4 : W.heap.size + 1 < W2.heap.size := by omega
    have hz5 : W.heap.size < W2.heap.size := by omega
    have hb3 : Aside0 (Below W.heap.size W W2) := ⟨below_then (by repeat (with_reducible first | exact hb1.out | refine below_alloc ?_ _ | refine Below.setCell ?_ (by simp) _)) (by simp; omega) hb2⟩
    have hk : Aside0 (W2.heap[W.heap.size]? = some (.cells #[.int .i64 0, .int .i64 0, .int .i64 0, .int .i64 0, .int .i32 0] 24 (0, 0))) := ⟨blk_below (by repeat (with_reducible first | exact hk1.out | refine blk_alloc ?_ _ | refine blk_far ?_ (by simp) _)) hb2⟩
    clear hb2
    go_wp2
    refine bodyPost_ret (results_ct rfl _ _ W.heap.size 24 #[.int .i64 _, .int .i64 _, .int .i64 _, .int .i64 _, .int .i32 _] (0, 0) _ rfl (blk_put (blk_put (blk_put (blk_put (blk_put hk.out 0 _ rfl) 1 _ rfl) 2 _ rfl) 3 _ rfl) 4 _ rfl) Try.underlying24 rfl (by kernel_rfl)) rfl ⟨rfl, ?_⟩
    repeat (with_reducible first | exact hb3.out | refine below_alloc ?_ _ | refine Below.setCell ?_ (by simp) _)
set_option maxHeartbeats 8000000 in
set_option maxRecDepth 100000 in
theorem decI (k : Nat) (w v c r1 r2 r3 r4 r5 r6 : Int) (is : Bool) (W : World) (w0 : 0 ≤ w) (w1 : w < 4294967296)
    (hs : Aside0 (crucibleref02_shaped.f k (w / 16777216) = some (false, false, false, 16, false, is)))
    (he : Hid (∀ W, Calls Try.prog 32 #[.agg #[.int .i64 (w / 16777216), .int .i64 (0), .int .i64 (0), .int .i64 (0), .int .i32 (wrap32 (wrap64 (bits .and .u32 w 65535)))]] W fun e w' => e = .returned (.tuple #[.int .u32 v, .int .i64 c]) ∧ Below W.heap.size W w'))
    (ho : (c = 1 ∧ r1 = 0 ∧ r2 = 0 ∧ r3 = 0 ∧ r4 = 0 ∧ r5 = 0 ∧ r6 = 1) ∨ (c = 0 ∧ (v == w) = false ∧ r1 = 0 ∧ r2 = 0 ∧ r3 = 0 ∧ r4 = 0 ∧ r5 = 0 ∧ r6 = 1) ∨ (c = 0 ∧ (v == w) = true ∧ r1 = w / 16777216 ∧ r2 = 0 ∧ r3 = 0 ∧ r4 = 0 ∧ r5 = wrap32 (wrap64 (bits .and .u32 w 65535)) ∧ r6 = 0)) :
    Calls Try.prog 35 #[.int .u32 w] W fun e w' => e = .returned (.tuple #[.agg #[.int .i64 r1, .int .i64 r2, .int .i64 r3, .int .i64 r4, .int .i32 r5], .int .i64 r6]) ∧ Below W.heap.size W w' := by
  rcases ho with ⟨rfl, rfl, rfl, rfl, rfl, rfl, rfl⟩ | ⟨rfl, hv, rfl, rfl, rfl, rfl, rfl, rfl⟩ | ⟨rfl, hv, rfl, rfl, rfl, rfl, rfl, rfl⟩
  all_goals
    go_enter Try.func35, Try.ntmps35
    go_wp2_with fail
    (with_reducible refine (crucibleref02_shaped.calls k (w / 16777216) _ _ _ _ _ _ _ hs.out).mono ?_)
    rintro e W1 ⟨rfl, hb⟩
    obtain ⟨hc, hf⟩ := bcell hb
    have hz1 : W.heap.size + 1 < W1.heap.size := by have := hb.size; simp at this; omega
    have hz : W.heap.size < W1.heap.size := by omega
    have hb1 := Aside0.mk ((below_alloc (below_alloc (Below.refl W.heap.size W) _) _).trans (hb.mono (by simp; omega)))
    have hk1 : Aside0 (W1.heap[W.heap.size]? = some (.cells #[.int .i64 0, .int .i64 0, .int .i64 0, .int .i64 0, .int .i32 0] 24 (0, 0))) := ⟨blk_below (blk_alloc (blk_new W _) _) hb⟩
    clear hb
    go_wp2_with fail
    (with_reducible refine (he.out _).mono ?_)
    rintro e W2 ⟨rfl, hb2⟩
    obtain ⟨hc2, hf2⟩ := bcell hb2
    have hz3 : W1.heap.size < W2.heap.size := by have := hb2.size; simp at this; omega
    have hz4 : W.heap.size + 1 < W2.heap.size := by omega
    have hz5 : W.heap.size < W2.heap.size := by omega
    have hb3 : Aside0 (Below W.heap.size W W2) := ⟨below_then (by repeat (with_reducible first | exact hb1.out | refine below_alloc ?_ _ | refine Below.setCell ?_ (by simp) _)) (by simp; omega) hb2⟩
    have hk : Aside0 (W2.heap[W.heap.size]? = some (.cells #[.int .i64 0, .int .i64 0, .int .i64 0, .int .i64 0, .int .i32 0] 24 (0, 0))) := ⟨blk_below (by repeat (with_reducible first | exact hk1.out | refine blk_alloc ?_ _ | refine blk_far ?_ (by simp) _)) hb2⟩
    clear hb2
    go_wp2
    refine bodyPost_ret (results_ct rfl _ _ W.heap.size 24 #[.int .i64 _, .int .i64 _, .int .i64 _, .int .i64 _, .int .i32 _] (0, 0) _ rfl (blk_put (blk_put (blk_put (blk_put (blk_put hk.out 0 _ rfl) 1 _ rfl) 2 _ rfl) 3 _ rfl) 4 _ rfl) Try.underlying24 rfl (by kernel_rfl)) rfl ⟨rfl, ?_⟩
    repeat (with_reducible first | exact hb3.out | refine below_alloc ?_ _ | refine Below.setCell ?_ (by simp) _)
set_option maxHeartbeats 8000000 in
set_option maxRecDepth 100000 in
theorem decJ (k : Nat) (w v c r1 r2 r3 r4 r5 r6 : Int) (is : Bool) (W : World) (w0 : 0 ≤ w) (w1 : w < 4294967296)
    (hs : Aside0 (crucibleref02_shaped.f k (w / 16777216) = some (false, false, false, 0, false, is)))
    (he : Hid (∀ W, Calls Try.prog 32 #[.agg #[.int .i64 (w / 16777216), .int .i64 (0), .int .i64 (0), .int .i64 (0), .int .i32 (0)]] W fun e w' => e = .returned (.tuple #[.int .u32 v, .int .i64 c]) ∧ Below W.heap.size W w'))
    (ho : (c = 1 ∧ r1 = 0 ∧ r2 = 0 ∧ r3 = 0 ∧ r4 = 0 ∧ r5 = 0 ∧ r6 = 1) ∨ (c = 0 ∧ (v == w) = false ∧ r1 = 0 ∧ r2 = 0 ∧ r3 = 0 ∧ r4 = 0 ∧ r5 = 0 ∧ r6 = 1) ∨ (c = 0 ∧ (v == w) = true ∧ r1 = w / 16777216 ∧ r2 = 0 ∧ r3 = 0 ∧ r4 = 0 ∧ r5 = 0 ∧ r6 = 0)) :
    Calls Try.prog 35 #[.int .u32 w] W fun e w' => e = .returned (.tuple #[.agg #[.int .i64 r1, .int .i64 r2, .int .i64 r3, .int .i64 r4, .int .i32 r5], .int .i64 r6]) ∧ Below W.heap.size W w' := by
  rcases ho with ⟨rfl, rfl, rfl, rfl, rfl, rfl, rfl⟩ | ⟨rfl, hv, rfl, rfl, rfl, rfl, rfl, rfl⟩ | ⟨rfl, hv, rfl, rfl, rfl, rfl, rfl, rfl⟩
  all_goals
    go_enter Try.func35, Try.ntmps35
    go_wp2_with fail
    (with_reducible refine (crucibleref02_shaped.calls k (w / 16777216) _ _ _ _ _ _ _ hs.out).mono ?_)
    rintro e W1 ⟨rfl, hb⟩
    obtain ⟨hc, hf⟩ := bcell hb
    have hz1 : W.heap.size + 1 < W1.heap.size := by have := hb.size; simp at this; omega
    have hz : W.heap.size < W1.heap.size := by omega
    have hb1 := Aside0.mk ((below_alloc (below_alloc (Below.refl W.heap.size W) _) _).trans (hb.mono (by simp; omega)))
    have hk1 : Aside0 (W1.heap[W.heap.size]? = some (.cells #[.int .i64 0, .int .i64 0, .int .i64 0, .int .i64 0, .int .i32 0] 24 (0, 0))) := ⟨blk_below (blk_alloc (blk_new W _) _) hb⟩
    clear hb
    go_wp2_with fail
    (with_reducible refine (he.out _).mono ?_)
    rintro e W2 ⟨rfl, hb2⟩
    obtain ⟨hc2, hf2⟩ := bcell hb2
    have hz3 : W1.heap.size < W2.heap.size := by have := hb2.size; simp at this; omega
    have hz4 : W.heap.size + 1 < W2.heap.size := by omega
    have hz5 : W.heap.size < W2.heap.size := by omega
    have hb3 : Aside0 (Below W.heap.size W W2) := ⟨below_then (by repeat (with_reducible first | exact hb1.out | refine below_alloc ?_ _ | refine Below.setCell ?_ (by simp) _)) (by simp; omega) hb2⟩
    have hk : Aside0 (W2.heap[W.heap.size]? = some (.cells #[.int .i64 0, .int .i64 0, .int .i64 0, .int .i64 0, .int .i32 0] 24 (0, 0))) := ⟨blk_below (by repeat (with_reducible first | exact hk1.out | refine blk_alloc ?_ _ | refine blk_far ?_ (by simp) _)) hb2⟩
    clear hb2
    go_wp2
    refine bodyPost_ret (results_ct rfl _ _ W.heap.size 24 #[.int .i64 _, .int .i64 _, .int .i64 _, .int .i64 _, .int .i32 _] (0, 0) _ rfl (blk_put (blk_put (blk_put (blk_put (blk_put hk.out 0 _ rfl) 1 _ rfl) 2 _ rfl) 3 _ rfl) 4 _ rfl) Try.underlying24 rfl (by kernel_rfl)) rfl ⟨rfl, ?_⟩
    repeat (with_reducible first | exact hb3.out | refine below_alloc ?_ _ | refine Below.setCell ?_ (by simp) _)
end Go.Proofs.Ytdhmnjoceeolcaa.RefIsa
end
section
namespace Go.Proofs.Ytdhmnjoceeolcaa.RefIsa
open Go.RowKit Go.Proofs.Ytdhmnjoceeolcaa.GF Go.Proofs.Ytdhmnjoceeolcaa.FactsDec Go.Proofs.YtdhmnjoceeolcaaW.PrintWords Go.Proofs.YtdhmnjoceeolcaaW.PrintLast Go.Proofs.YtdhmnjoceeolcaaW.PrintMore
set_option linter.unusedVariables false
set_option linter.unusedSimpArgs false
section
variable {op p bits lo hi : Int} {sd sa sb sign is : Bool}
theorem im_range (w bits : Int) (sign : Bool) (w0 : 0 ≤ w) (w1 : w < 4294967296) : -2147483648 ≤ im w bits sign ∧ im w bits sign ≤ 2147483647 := by
  unfold im
  split
  · omega
  · split
    · split <;> omega
    · split
      · split <;> omega
      · omega
/-- The six numbers that a word is read as_. -/
def Six (w op : Int) (sd sa sb : Bool) (bits : Int) (sign is : Bool) (lo hi : Int) (e : Ending) : Prop :=
  e = .returned (.tuple #[.agg #[.int .i64 (dec w op sd sa sb bits sign is lo hi).1, .int .i64 (dec w op sd sa sb bits sign is lo hi).2.1, .int .i64 (dec w op sd sa sb bits sign is lo hi).2.2.1, .int .i64 (dec w op sd sa sb bits sign is lo hi).2.2.2.1, .int .i32 (dec w op sd sa sb bits sign is lo hi).2.2.2.2.1], .int .i64 (dec w op sd sa sb bits sign is lo hi).2.2.2.2.2])
theorem join (w D A B I : Int) (W : World) (w0 : 0 ≤ w) (w1 : w < 4294967296) (h : Cl (w / 16777216) p sd sa sb bits sign is lo hi)
    (eD : D = fld w sd 1048576) (eA : A = fld w sa 65536) (eB : B = fld w sb 4096) (eI : I = im w bits sign)
    (X : ∀ (v c r1 r2 r3 r4 r5 r6 : Int), Hid (∀ W, Calls Try.prog 32 #[.agg #[.int .i64 (w / 16777216), .int .i64 D, .int .i64 A, .int .i64 B, .int .i32 I]] W fun e w' => e = .returned (.tuple #[.int .u32 v, .int .i64 c]) ∧ Below W.heap.size W w') →
      ((c = 1 ∧ r1 = 0 ∧ r2 = 0 ∧ r3 = 0 ∧ r4 = 0 ∧ r5 = 0 ∧ r6 = 1) ∨ (c = 0 ∧ (v == w) = false ∧ r1 = 0 ∧ r2 = 0 ∧ r3 = 0 ∧ r4 = 0 ∧ r5 = 0 ∧ r6 = 1) ∨ (c = 0 ∧ (v == w) = true ∧ r1 = w / 16777216 ∧ r2 = D ∧ r3 = A ∧ r4 = B ∧ r5 = I ∧ r6 = 0)) →
      Calls Try.prog 35 #[.int .u32 w] W fun e w' => e = .returned (.tuple #[.agg #[.int .i64 r1, .int .i64 r2, .int .i64 r3, .int .i64 r4, .int .i32 r5], .int .i64 r6]) ∧ Below W.heap.size W w') :
    Calls Try.prog 35 #[.int .u32 w] W fun e w' => Six w (w / 16777216) sd sa sb bits sign is lo hi e ∧ Below W.heap.size W w' := by
  obtain ⟨i0, i1⟩ := im_range w bits sign w0 w1
  subst eD eA eB eI
  unfold Six dec
  by_cases hok : ok (fld w sd 1048576) (fld w sa 65536) (fld w sb 4096) (im w bits sign) sd sa sb is lo hi = true
  · by_cases he : E (w / 16777216) (fld w sd 1048576) (fld w sa 65536) (fld w sb 4096) (im w bits sign) bits = w
    · rw [if_pos ⟨hok, he⟩]
      exact X _ 0 _ _ _ _ _ _ (fun W => enc _ _ _ _ W i0 i1 h hok) (.inr (.inr ⟨rfl, beq_iff_eq.2 he, rfl, rfl, rfl, rfl, rfl, rfl⟩))
    · rw [if_neg (fun x => he x.2)]
      exact X _ 0 _ _ _ _ _ _ (fun W => enc _ _ _ _ W i0 i1 h hok) (.inr (.inl ⟨rfl, beq_eq_false_iff_ne.2 he, rfl, rfl, rfl, rfl, rfl, rfl⟩))
  · rw [if_neg (fun x => hok x.1)]
    exact X 0 1 _ _ _ _ _ _ (fun W => encNo _ _ _ _ W i0 i1 h hok) (.inl ⟨rfl, rfl, rfl, rfl, rfl, rfl, rfl⟩)
theorem gd (w : Int) (w0 : 0 ≤ w) (w1 : w < 4294967296) : wrap64 (Go.bits .and .u32 (w / 1048576) 15) = fld w true 1048576 := by
  rw [and_15 _ (by omega) (by omega)]; unfold fld wrap64; simp only [if_true]; omega
theorem ga (w : Int) (w0 : 0 ≤ w) (w1 : w < 4294967296) : wrap64 (Go.bits .and .u32 (w / 65536) 15) = fld w true 65536 := by
  rw [and_15 _ (by omega) (by omega)]; unfold fld wrap64; simp only [if_true]; omega
theorem gb (w : Int) (w0 : 0 ≤ w) (w1 : w < 4294967296) : wrap64 (Go.bits .and .u32 (w / 4096) 15) = fld w true 4096 := by
  rw [and_15 _ (by omega) (by omega)]; unfold fld wrap64; simp only [if_true]; omega
theorem low (w : Int) (w0 : 0 ≤ w) (w1 : w < 4294967296) : wrap64 (Go.bits .and .u32 w 65535) = w % 65536 := by
  rw [and_low _ (by omega) (by omega)]; unfold wrap64; omega
theorem farr (w : Int) (w0 : 0 ≤ w) (w1 : w < 4294967296) : wrap64 (Go.bits .and .u32 w 16777215) = w % 16777216 := by
  rw [and_far _ (by omega) (by omega)]; unfold wrap64; omega
theorem i16n (w : Int) (w0 : 0 ≤ w) (w1 : w < 4294967296) (h : 32768 ≤ w % 65536) : wrap32 (wrap64 (wrap64 (Go.bits .and .u32 w 65535) - 65536)) = im w 16 true := by
  rw [low w w0 w1]
  unfold im
  simp only [show ¬ (16 : Int) = 0 by omega, show ¬ (16 : Int) = 24 by omega, if_false, if_true]
  rw [if_neg (by omega)]
  unfold wrap32 wrap64
  omega
theorem i16p (w : Int) (w0 : 0 ≤ w) (w1 : w < 4294967296) (h : ¬ 32768 ≤ w % 65536) : wrap32 (wrap64 (Go.bits .and .u32 w 65535)) = im w 16 true := by
  rw [low w w0 w1]
  unfold im
  simp only [show ¬ (16 : Int) = 0 by omega, show ¬ (16 : Int) = 24 by omega, if_false, if_true]
  rw [if_pos (by omega)]
  unfold wrap32
  omega
theorem i16u (w : Int) (w0 : 0 ≤ w) (w1 : w < 4294967296) : wrap32 (wrap64 (Go.bits .and .u32 w 65535)) = im w 16 false := by
  rw [low w w0 w1]
  unfold im
  simp only [show ¬ (16 : Int) = 0 by omega, show ¬ (16 : Int) = 24 by omega, if_false, Bool.false_eq_true]
  unfold wrap32
  omega
theorem i24n (w : Int) (w0 : 0 ≤ w) (w1 : w < 4294967296) (h : 8388608 ≤ w % 16777216) : wrap32 (wrap64 (wrap64 (Go.bits .and .u32 w 16777215) - 16777216)) = im w 24 true := by
  rw [farr w w0 w1]
  unfold im
  simp only [show ¬ (24 : Int) = 0 by omega, if_false, if_true]
  rw [if_neg (by omega)]
  generalize hm : w % 16777216 = m
  have : m < 16777216 := by omega
  unfold wrap32 wrap64
  omega
theorem i24p (w : Int) (w0 : 0 ≤ w) (w1 : w < 4294967296) (h : ¬ 8388608 ≤ w % 16777216) : wrap32 (wrap64 (Go.bits .and .u32 w 16777215)) = im w 24 true := by
  rw [farr w w0 w1]
  unfold im
  simp only [show ¬ (24 : Int) = 0 by omega, if_false, if_true]
  rw [if_pos (by omega)]
  generalize hm : w % 16777216 = m at *
  have : 0 ≤ m := by omega
  unfold wrap32
  omega
theorem decode (w : Int) (W : World) (w0 : 0 ≤ w) (w1 : w < 4294967296) (h : Cl (w / 16777216) p sd sa sb bits sign is lo hi) :
    Calls Try.prog 35 #[.int .u32 w] W fun e w' => Six w (w / 16777216) sd sa sb bits sign is lo hi e ∧ Below W.heap.size W w' := by
  have hs := Aside0.mk (shaped 0 h)
  have H := h
  have hl := low w w0 w1
  have hf := farr w w0 w1
  rcases h with ⟨_, rfl, rfl, rfl, rfl, rfl, rfl, rfl, rfl, rfl⟩ | ⟨_, rfl, rfl, rfl, rfl, rfl, rfl, rfl, rfl, rfl⟩ | ⟨_, rfl, rfl, rfl, rfl, rfl, rfl, rfl, rfl, rfl⟩ | ⟨_, rfl, rfl, rfl, rfl, rfl, rfl, rfl, rfl, rfl⟩ | ⟨_, rfl, rfl, rfl, rfl, rfl, rfl, rfl, rfl, rfl⟩ | ⟨_, rfl, rfl, rfl, rfl, rfl, rfl, rfl, rfl, rfl⟩ | ⟨_, rfl, rfl, rfl, rfl, rfl, rfl, rfl, rfl, rfl⟩ | ⟨_, rfl, rfl, rfl, rfl, rfl, rfl, rfl, rfl, rfl⟩ | ⟨_, rfl, rfl, rfl, rfl, rfl, rfl, rfl, rfl, rfl⟩ | ⟨_, rfl, rfl, rfl, rfl, rfl, rfl, rfl, rfl, rfl⟩ | ⟨_, rfl, rfl, rfl, rfl, rfl, rfl, rfl, rfl, rfl⟩
  · exact join w _ _ _ _ W w0 w1 H (gd w w0 w1) (ga w w0 w1) (gb w w0 w1) rfl (fun v c r1 r2 r3 r4 r5 r6 he ho => decA _ w v c r1 r2 r3 r4 r5 r6 _ W w0 w1 hs he ho)
  · by_cases hn : 32768 ≤ w % 65536
    · exact join w _ _ _ _ W w0 w1 H (gd w w0 w1) (ga w w0 w1) rfl (i16n w w0 w1 hn) (fun v c r1 r2 r3 r4 r5 r6 he ho => decBn _ w v c r1 r2 r3 r4 r5 r6 _ W w0 w1 hs (by rw [hl]; exact decide_eq_true hn) he ho)
    · exact join w _ _ _ _ W w0 w1 H (gd w w0 w1) (ga w w0 w1) rfl (i16p w w0 w1 hn) (fun v c r1 r2 r3 r4 r5 r6 he ho => decBp _ w v c r1 r2 r3 r4 r5 r6 _ W w0 w1 hs (by rw [hl]; exact decide_eq_false hn) he ho)
  · by_cases hn : 32768 ≤ w % 65536
    · exact join w _ _ _ _ W w0 w1 H (gd w w0 w1) (ga w w0 w1) rfl (i16n w w0 w1 hn) (fun v c r1 r2 r3 r4 r5 r6 he ho => decBn _ w v c r1 r2 r3 r4 r5 r6 _ W w0 w1 hs (by rw [hl]; exact decide_eq_true hn) he ho)
    · exact join w _ _ _ _ W w0 w1 H (gd w w0 w1) (ga w w0 w1) rfl (i16p w w0 w1 hn) (fun v c r1 r2 r3 r4 r5 r6 he ho => decBp _ w v c r1 r2 r3 r4 r5 r6 _ W w0 w1 hs (by rw [hl]; exact decide_eq_false hn) he ho)
  · by_cases hn : 32768 ≤ w % 65536
    · exact join w _ _ _ _ W w0 w1 H (gd w w0 w1) rfl rfl (i16n w w0 w1 hn) (fun v c r1 r2 r3 r4 r5 r6 he ho => decCn _ w v c r1 r2 r3 r4 r5 r6 _ W w0 w1 hs (by rw [hl]; exact decide_eq_true hn) he ho)
    · exact join w _ _ _ _ W w0 w1 H (gd w w0 w1) rfl rfl (i16p w w0 w1 hn) (fun v c r1 r2 r3 r4 r5 r6 he ho => decCp _ w v c r1 r2 r3 r4 r5 r6 _ W w0 w1 hs (by rw [hl]; exact decide_eq_false hn) he ho)
  · exact join w _ _ _ _ W w0 w1 H (gd w w0 w1) rfl rfl (i16u w w0 w1) (fun v c r1 r2 r3 r4 r5 r6 he ho => decD _ w v c r1 r2 r3 r4 r5 r6 _ W w0 w1 hs he ho)
  · by_cases hn : 32768 ≤ w % 65536
    · exact join w _ _ _ _ W w0 w1 H rfl (ga w w0 w1) rfl (i16n w w0 w1 hn) (fun v c r1 r2 r3 r4 r5 r6 he ho => decEn _ w v c r1 r2 r3 r4 r5 r6 _ W w0 w1 hs (by rw [hl]; exact decide_eq_true hn) he ho)
    · exact join w _ _ _ _ W w0 w1 H rfl (ga w w0 w1) rfl (i16p w w0 w1 hn) (fun v c r1 r2 r3 r4 r5 r6 he ho => decEp _ w v c r1 r2 r3 r4 r5 r6 _ W w0 w1 hs (by rw [hl]; exact decide_eq_false hn) he ho)
  · by_cases hn : 8388608 ≤ w % 16777216
    · exact join w _ _ _ _ W w0 w1 H rfl rfl rfl (i24n w w0 w1 hn) (fun v c r1 r2 r3 r4 r5 r6 he ho => decFn _ w v c r1 r2 r3 r4 r5 r6 _ W w0 w1 hs (by rw [hf]; exact decide_eq_true hn) he ho)
    · exact join w _ _ _ _ W w0 w1 H rfl rfl rfl (i24p w w0 w1 hn) (fun v c r1 r2 r3 r4 r5 r6 he ho => decFp _ w v c r1 r2 r3 r4 r5 r6 _ W w0 w1 hs (by rw [hf]; exact decide_eq_false hn) he ho)
  · exact join w _ _ _ _ W w0 w1 H rfl (ga w w0 w1) rfl rfl (fun v c r1 r2 r3 r4 r5 r6 he ho => decG _ w v c r1 r2 r3 r4 r5 r6 _ W w0 w1 hs he ho)
  · exact join w _ _ _ _ W w0 w1 H (gd w w0 w1) rfl rfl rfl (fun v c r1 r2 r3 r4 r5 r6 he ho => decH _ w v c r1 r2 r3 r4 r5 r6 _ W w0 w1 hs he ho)
  · exact join w _ _ _ _ W w0 w1 H rfl rfl rfl (i16u w w0 w1) (fun v c r1 r2 r3 r4 r5 r6 he ho => decI _ w v c r1 r2 r3 r4 r5 r6 _ W w0 w1 hs he ho)
  · exact join w _ _ _ _ W w0 w1 H rfl rfl rfl rfl (fun v c r1 r2 r3 r4 r5 r6 he ho => decJ _ w v c r1 r2 r3 r4 r5 r6 _ W w0 w1 hs he ho)
end
end Go.Proofs.Ytdhmnjoceeolcaa.RefIsa
end
section
namespace Go.Proofs.Ytdhmnjoceeolcaa.Asm
open Go.RowKit Go.Proofs.YtdhmnjoceeolcaaW.PrintWords Go.Proofs.YtdhmnjoceeolcaaW.PrintLast Go.Proofs.YtdhmnjoceeolcaaW.PrintMore Go.Proofs.Ytdhmnjoceeolcaa.GF Go.Proofs.Ytdhmnjoceeolcaa.FactsDec Go.Proofs.Ytdhmnjoceeolcaa.RefIsa
set_option linter.unusedVariables false
set_option linter.unusedSimpArgs false
section
variable {op p bits lo hi : Int} {sd sa sb sign is : Bool}
/-- An instruction that may be is read back out of its word. -/
theorem dec_E (d a b i : Int) (h : Cl op p sd sa sb bits sign is lo hi) (hok : ok d a b i sd sa sb is lo hi = true) :
    0 ≤ E op d a b i bits ∧ E op d a b i bits < 4294967296 ∧ E op d a b i bits / 16777216 = op ∧ dec (E op d a b i bits) op sd sa sb bits sign is lo hi = (op, d, a, b, i, 0) := by
  obtain ⟨his, ⟨d1, d2, d3⟩, ⟨a1, a2, a3⟩, ⟨b1, b2, b3⟩, i1, i2⟩ := ok_out hok
  have key : 0 ≤ E op d a b i bits ∧ E op d a b i bits < 4294967296 ∧ E op d a b i bits / 16777216 = op ∧ fld (E op d a b i bits) sd 1048576 = d ∧ fld (E op d a b i bits) sa 65536 = a ∧ fld (E op d a b i bits) sb 4096 = b ∧ im (E op d a b i bits) bits sign = i := by
    unfold E fld im
    rcases h with ⟨h0, rfl, rfl, rfl, rfl, rfl, rfl, rfl, rfl, rfl⟩ | ⟨h0, rfl, rfl, rfl, rfl, rfl, rfl, rfl, rfl, rfl⟩ | ⟨h0, rfl, rfl, rfl, rfl, rfl, rfl, rfl, rfl, rfl⟩ | ⟨h0, rfl, rfl, rfl, rfl, rfl, rfl, rfl, rfl, rfl⟩ | ⟨h0, rfl, rfl, rfl, rfl, rfl, rfl, rfl, rfl, rfl⟩ | ⟨h0, rfl, rfl, rfl, rfl, rfl, rfl, rfl, rfl, rfl⟩ | ⟨h0, rfl, rfl, rfl, rfl, rfl, rfl, rfl, rfl, rfl⟩ | ⟨h0, rfl, rfl, rfl, rfl, rfl, rfl, rfl, rfl, rfl⟩ | ⟨h0, rfl, rfl, rfl, rfl, rfl, rfl, rfl, rfl, rfl⟩ | ⟨h0, rfl, rfl, rfl, rfl, rfl, rfl, rfl, rfl, rfl⟩ | ⟨h0, rfl, rfl, rfl, rfl, rfl, rfl, rfl, rfl, rfl⟩
    all_goals first | (exact absurd his (by decide)) | skip
    all_goals (try have d4 := d3 rfl) <;> (try have a4 := a3 rfl) <;> (try have b4 := b3 rfl)
    all_goals simp only [if_true, if_false, Bool.false_eq_true, z0, z1, z2, z3, b_16, show ((0 : Int) = 24) = False by simp]
    all_goals refine ⟨by omega, by omega, by omega, by omega, by omega, by omega, ?_⟩
    all_goals (repeat' split) <;> omega
  obtain ⟨k0, k1, k2, k3, k4, k5, k6⟩ := key
  refine ⟨k0, k1, k2, ?_⟩
  unfold dec
  rw [k3, k4, k5, k6, if_pos ⟨hok, rfl⟩]
end
theorem dec_calls (x : S24) (hx : encE x = 0) : 0 ≤ encV x ∧ encV x < 4294967296 ∧ ∀ W : World, Calls Try.prog 35 #[.int .u32 (encV x)] W fun e w' => e = .returned (.tuple #[.agg #[.int .i64 x.f0, .int .i64 x.f1, .int .i64 x.f2, .int .i64 x.f3, .int .i32 x.f4], .int .i64 0]) ∧ Below W.heap.size W w' := by
  obtain ⟨p, sd, sa, sb, bits, sign, is, lo, hi, h⟩ := cl x.f0
  by_cases hok : ok x.f1 x.f2 x.f3 x.f4 sd sa sb is lo hi = true
  · obtain ⟨k0, k1, k2, k3⟩ := dec_E x.f1 x.f2 x.f3 x.f4 h hok
    have hv : encV x = E x.f0 x.f1 x.f2 x.f3 x.f4 bits := by
      have := isaEnc 0 x.f1 x.f2 x.f3 x.f4 h hok
      unfold encV; rw [this]; rfl
    rw [hv]
    refine ⟨k0, k1, fun W => ?_⟩
    have h' := h
    rw [← k2] at h'
    have := RefIsa.decode (E x.f0 x.f1 x.f2 x.f3 x.f4 bits) W k0 k1 h'
    unfold Six at this
    rw [k2, k3] at this
    exact this
  · have := isaEncNo 0 x.f1 x.f2 x.f3 x.f4 h hok
    unfold encE at hx
    rw [this] at hx
    exact absurd hx (by decide)
/-- A word, byte by byte from above. -/
def pt (w : Int) : Nat → Int
  | 0 => 0
  | 1 => w / 16777216
  | 2 => w / 65536
  | 3 => w / 256
  | _ => w
theorem pt_next (w : Int) (h0 : 0 ≤ w) (h1 : w < 4294967296) (j : Nat) (hj : j < 4) : pt w (j + 1) = pt w j * 256 + (byt w).getD (3 - j) 0 ∧ 0 ≤ pt w j ∧ pt w j < 16777216 ∧ 0 ≤ (byt w).getD (3 - j) 0 ∧ (byt w).getD (3 - j) 0 < 256 := by
  have : j = 0 ∨ j = 1 ∨ j = 2 ∨ j = 3 := by omega
  rcases this with rfl | rfl | rfl | rfl <;> simp [pt, byt] <;> omega
abbrev agI (x : S24) : Value := .agg #[.int .i64 x.f0, .int .i64 x.f1, .int .i64 x.f2, .int .i64 x.f3, .int .i32 x.f4]
abbrev ib' (x : S24) : Obj := .cells #[.int .i64 x.f0, .int .i64 x.f1, .int .i64 x.f2, .int .i64 x.f3, .int .i32 x.f4] 24 (0, 0)
abbrev zI : Obj := .cells #[.int .i64 0, .int .i64 0, .int .i64 0, .int .i64 0, .int .i32 0] 24 (0, 0)
set_option maxHeartbeats 16000000 in
set_option maxRecDepth 100000 in
theorem word_calls (s : ByteArray) (i : Nat) (x : S24) (hx : encE x = 0) (hi : 4 * i + 4 ≤ s.size) (hs : s.size ≤ 100000000) (hb : ∀ q, q < 4 → bt s ((4 * i + q : Nat) : Int) = (byt (encV x)).getD q 0) (w : World) :
    Calls Try.prog 27 #[.string s, .int .i64 i] w fun e w' => e = .returned (.tuple #[agI x, .bool true]) ∧ Below w.heap.size w w' := by
  obtain ⟨v0, v1, hd⟩ := dec_calls x hx
  replace hd := Aside0.mk hd
  clear hx
  obtain ⟨v, hv⟩ : ∃ v, encV x = v := ⟨_, rfl⟩
  rw [hv] at v0 v1 hd hb
  clear hv
  have hpt := Aside0.mk (pt_next v v0 v1)
  replace hb := Aside0.mk hb
  have B0 := Aside0.mk (blk_new w zI)
  have L0 : Aside0 (Below w.heap.size w (w.alloc zI)) := ⟨below_alloc (Below.refl _ _) _⟩
  have e4 : IntKind.i64.wrap (4 * (i : Int)) = 4 * (i : Int) := IntWalk.i64_in _ (by omega)
  have e5 : IntKind.i64.wrap (4 * (i : Int) + 4) = 4 * (i : Int) + 4 := IntWalk.i64_in _ (by omega)
  have c0 : decide ((i : Int) < 0) = false := decide_eq_false (by omega)
  have c1 : decide ((s.size : Int) < 4 * (i : Int) + 4) = false := decide_eq_false (by omega)
  replace v0 := Aside0.mk v0
  replace v1 := Aside0.mk v1
  go_enter Try.func27, Try.ntmps27
  go_upto_region 1 with (fail)
  generalize w.alloc zI = W0 at *
  go_wp2_with fail
  go_loopw [6, 7] (fun u6 u7 wr => ∃ j : Nat, j ≤ 4 ∧ Aside0 (wr.heap[w.heap.size]? = some zI) ∧ Aside0 (Below w.heap.size w wr) ∧ u6 = .int .u32 (pt v j) ∧ u7 = .int .i64 (3 - (j : Int))) (fun _ u _ => (intOf u + 1).toNat)
  case atStart => exact ⟨0, by omega, B0, L0, rfl, rfl⟩
  case round =>
    clear B0 L0
    obtain ⟨j, hj, B0, L0, rfl, rfl⟩ := hrel
    by_cases hlt : j < 4
    · obtain ⟨n1, n2, n3, n4, n5⟩ := hpt.out j hlt
      have hbj := hb.out (3 - j) (by omega)
      rw [← hbj] at n1 n4 n5
      have hix : ((4 * i + (3 - j) : Nat) : Int) = 4 * (i : Int) + (3 - (j : Int)) := by omega
      rw [hix] at n1 n4 n5
      have hadd : IntKind.i64.wrap (4 * (i : Int) + (3 - (j : Int))) = 4 * (i : Int) + (3 - (j : Int)) := IntWalk.i64_in _ (by omega)
      have hsub : IntKind.i64.wrap (3 - (j : Int) - 1) = 3 - ((j + 1 : Nat) : Int) := by rw [IntWalk.i64_in _ (by omega)]; omega
      have hbt := bt_at s (4 * (i : Int) + (3 - (j : Int)))
      have p0 : 0 ≤ 4 * (i : Int) + (3 - (j : Int)) := by omega
      have p1 : 4 * (i : Int) + (3 - (j : Int)) < (s.size : Int) := by omega
      have hor : Go.bits .or .u32 ((pt v j * 256) % 4294967296) ((bt s (4 * (i : Int) + (3 - (j : Int)))) % 4294967296) = pt v (j + 1) := by
        rw [n1, Int.emod_eq_of_lt (by omega) (by omega), Int.emod_eq_of_lt (by omega) (by omega), or_add _ _ 256 8 (by decide) (by omega) (by omega) (by omega) (by omega) (by omega) (by omega)]
      have k1 : decide (0 ≤ 3 - (j : Int)) = true := decide_eq_true (by omega)
      clear hbj hix n1 n2 n3 n4 n5
      go_wp2_with fail
      go_roundw
      case rel => exact ⟨j + 1, by omega, B0, L0, by first | rfl | (rw [hor]), by first | rfl | (rw [hsub])⟩
      case measure => simp [intOf]; omega
    · obtain rfl : j = 4 := by omega
      have k1 : decide (0 ≤ 3 - ((4 : Nat) : Int)) = false := by decide
      change Aside0 (∀ W, Calls Try.prog 35 #[.int .u32 (pt v 4)] W _) at hd
      clear hpt hb
      generalize pt v 4 = v4 at *
      go_upto_region 9 with (go_at_call 35; (with_reducible refine (hd.out _).mono ?_); rintro e w2 ⟨rfl, hb2⟩; have B2 := Aside0.mk (blk_below B0.out hb2); have L2 := Aside0.mk (below_step L0.out hb2); clear hb2)
      have X2 := Aside0.mk (blk_new w2 (ib' x))
      replace B2 := Aside0.mk (blk_alloc B2.out (ib' x))
      replace L2 := Aside0.mk (below_alloc L2.out (ib' x))
      generalize w2.alloc (ib' x) = W2 at *
      have z0 := (blk_cell X2.out 0).trans (show _ = some (.int .i64 x.f0) from rfl)
      have z1 := (blk_cell X2.out 1).trans (show _ = some (.int .i64 x.f1) from rfl)
      have z2 := (blk_cell X2.out 2).trans (show _ = some (.int .i64 x.f2) from rfl)
      have z3 := (blk_cell X2.out 3).trans (show _ = some (.int .i64 x.f3) from rfl)
      have z4 := (blk_cell X2.out 4).trans (show _ = some (.int .i32 x.f4) from rfl)
      have r0 := (blk_cell B2.out 0).trans (show _ = some (.int .i64 0) from rfl)
      have r1 := (blk_cell B2.out 1).trans (show _ = some (.int .i64 0) from rfl)
      have r2 := (blk_cell B2.out 2).trans (show _ = some (.int .i64 0) from rfl)
      have r3 := (blk_cell B2.out 3).trans (show _ = some (.int .i64 0) from rfl)
      have r4 := (blk_cell B2.out 4).trans (show _ = some (.int .i32 0) from rfl)
      have g0 := blk_frozen B2.out 0
      have g1 := blk_frozen B2.out 1
      have g2 := blk_frozen B2.out 2
      have g3 := blk_frozen B2.out 3
      have g4 := blk_frozen B2.out 4
      generalize w2.heap.size = xb at *
      go_wp2_with fail
      refine bodyPost_ret (results_ct rfl _ _ w.heap.size 24 #[.int .i64 x.f0, .int .i64 x.f1, .int .i64 x.f2, .int .i64 x.f3, .int .i32 x.f4] (0, 0) _ rfl (by refine blk_put (cs := #[.int .i64 x.f0, .int .i64 x.f1, .int .i64 x.f2, .int .i64 x.f3, .int .i32 0]) ?_ 4 _ rfl; refine blk_put (cs := #[.int .i64 x.f0, .int .i64 x.f1, .int .i64 x.f2, .int .i64 0, .int .i32 0]) ?_ 3 _ rfl; refine blk_put (cs := #[.int .i64 x.f0, .int .i64 x.f1, .int .i64 0, .int .i64 0, .int .i32 0]) ?_ 2 _ rfl; refine blk_put (cs := #[.int .i64 x.f0, .int .i64 0, .int .i64 0, .int .i64 0, .int .i32 0]) ?_ 1 _ rfl; refine blk_put (cs := #[.int .i64 0, .int .i64 0, .int .i64 0, .int .i64 0, .int .i32 0]) ?_ 0 _ rfl; exact B2.out) Try.underlying24 rfl (by kernel_rfl)) rfl ?_
      exact ⟨by rfl, below_set (below_set (below_set (below_set (below_set L2.out (Nat.le_refl _)) (Nat.le_refl _)) (Nat.le_refl _)) (Nat.le_refl _)) (Nat.le_refl _)⟩
end Go.Proofs.Ytdhmnjoceeolcaa.Asm
end
section
namespace Go.Proofs.Ytdhmnjoceeolcaa.Asm
open Go.RowKit Go.Proofs.YtdhmnjoceeolcaaW.PrintWords Go.Proofs.YtdhmnjoceeolcaaW.PrintLast Go.Proofs.YtdhmnjoceeolcaaW.PrintMore Go.Proofs.Ytdhmnjoceeolcaa.GF
set_option linter.unusedVariables false
set_option linter.unusedSimpArgs false
attribute [local go_sem high] eqA24
def Wd (s : ByteArray) (n : Int) (y : S24) : Prop := ∀ w : World, Calls Try.prog 27 #[.string s, .int .i64 n] w fun e w' => e = .returned (.tuple #[agI y, .bool true]) ∧ Below w.heap.size w w'
abbrev agL (x : S37) : Value := .agg #[.int .i64 x.f0, .int .i64 x.f1.f0, .int .i64 x.f1.f1, .int .i64 x.f1.f2, .int .i64 x.f1.f3, .int .i32 x.f1.f4, .int .i64 x.f2]
set_option maxHeartbeats 16000000 in
set_option maxRecDepth 100000 in
theorem leads_plain (s : ByteArray) (n : Int) (z0 : Int) (y : S24) (to_ : Int) (hw : Wd s n y) (w : World) :
    Calls Try.prog 16 #[.string s, .int .i64 n, agL ⟨z0, y, 0⟩, .int .i64 to_] w fun e w' => e = .returned (.tuple #[.int .i64 1, .bool true]) ∧ Below w.heap.size w w' := by
  have X0 := Aside0.mk (blk_new w (lb ⟨z0, y, 0⟩))
  have L0 : Aside0 (Below w.heap.size w (w.alloc (lb ⟨z0, y, 0⟩))) := ⟨below_alloc (Below.refl _ _) _⟩
  unfold Wd at hw
  replace hw := Aside0.mk hw
  go_enter Try.func16, Try.ntmps16
  go_upto_region 1 with (fail)
  generalize w.alloc (lb ⟨z0, y, 0⟩) = W0 at *
  go_upto_region 2 with (go_at_call 27; (with_reducible refine (hw.out _).mono ?_); rintro e w1 ⟨rfl, hb1⟩; replace X0 := Aside0.mk (blk_below X0.out hb1); replace L0 := Aside0.mk (below_step L0.out hb1); clear hb1)
  have Y0 := Aside0.mk (blk_new w1 (ib' y))
  replace X0 := Aside0.mk (blk_alloc X0.out (ib' y))
  replace L0 := Aside0.mk (below_alloc L0.out (ib' y))
  generalize w1.alloc (ib' y) = W1 at *
  generalize w1.heap.size = yb at *
  have p0 := (blk_cell X0.out 0).trans (show _ = some (.int .i64 z0) from rfl)
  have p1 := (blk_cell X0.out 1).trans (show _ = some (.int .i64 y.f0) from rfl)
  have p2 := (blk_cell X0.out 2).trans (show _ = some (.int .i64 y.f1) from rfl)
  have p3 := (blk_cell X0.out 3).trans (show _ = some (.int .i64 y.f2) from rfl)
  have p4 := (blk_cell X0.out 4).trans (show _ = some (.int .i64 y.f3) from rfl)
  have p5 := (blk_cell X0.out 5).trans (show _ = some (.int .i32 y.f4) from rfl)
  have p6 := (blk_cell X0.out 6).trans (show _ = some (.int .i64 0) from rfl)
  have q0 := (blk_cell Y0.out 0).trans (show _ = some (.int .i64 y.f0) from rfl)
  have q1 := (blk_cell Y0.out 1).trans (show _ = some (.int .i64 y.f1) from rfl)
  have q2 := (blk_cell Y0.out 2).trans (show _ = some (.int .i64 y.f2) from rfl)
  have q3 := (blk_cell Y0.out 3).trans (show _ = some (.int .i64 y.f3) from rfl)
  have q4 := (blk_cell Y0.out 4).trans (show _ = some (.int .i32 y.f4) from rfl)
  go_upto_region 5 with (fail)
  go_quiet (fail)
  go_wp2_with fail
  go_ret2
  exact ⟨by simp, pw_below_drewN L0.out nq⟩
set_option maxHeartbeats 16000000 in
set_option maxRecDepth 100000 in
theorem leads_short (s : ByteArray) (n : Int) (x : S37) (to_ : Int) (d : Int) (h2 : x.f2 ≠ 0) (hd : -2147483648 ≤ d ∧ d ≤ 2147483647) (hn : 0 ≤ n ∧ n ≤ 1000000) (ht : n + 1 + d = to_) (hw : Wd s n ⟨x.f1.f0, x.f1.f1, x.f1.f2, x.f1.f3, d⟩) (w : World) :
    Calls Try.prog 16 #[.string s, .int .i64 n, agL x, .int .i64 to_] w fun e w' => e = .returned (.tuple #[.int .i64 1, .bool true]) ∧ Below w.heap.size w w' := by
  have X0 := Aside0.mk (blk_new w (lb x))
  have L0 : Aside0 (Below w.heap.size w (w.alloc (lb x))) := ⟨below_alloc (Below.refl _ _) _⟩
  unfold Wd at hw
  replace hw := Aside0.mk hw
  have e2 : (x.f2 == 0) = false := by simpa using h2
  replace h2 := Aside0.mk h2
  have k1 : IntKind.i64.wrap (n + 1) = n + 1 := IntWalk.i64_in _ (by omega)
  have k2 : IntKind.i64.wrap d = d := IntWalk.i64_in _ (by omega)
  have k3 : IntKind.i64.wrap (n + 1 + d) = n + 1 + d := IntWalk.i64_in _ (by omega)
  have e3 : (n + 1 + d == to_) = true := by simpa using ht
  go_enter Try.func16, Try.ntmps16
  go_upto_region 1 with (fail)
  generalize w.alloc (lb x) = W0 at *
  go_upto_region 2 with (go_at_call 27; (with_reducible refine (hw.out _).mono ?_); rintro e w1 ⟨rfl, hb1⟩; replace X0 := Aside0.mk (blk_below X0.out hb1); replace L0 := Aside0.mk (below_step L0.out hb1); clear hb1)
  have Y0 := Aside0.mk (blk_new w1 (ib' ⟨x.f1.f0, x.f1.f1, x.f1.f2, x.f1.f3, d⟩))
  replace X0 := Aside0.mk (blk_alloc X0.out (ib' ⟨x.f1.f0, x.f1.f1, x.f1.f2, x.f1.f3, d⟩))
  replace L0 := Aside0.mk (below_alloc L0.out (ib' ⟨x.f1.f0, x.f1.f1, x.f1.f2, x.f1.f3, d⟩))
  generalize w1.alloc (ib' ⟨x.f1.f0, x.f1.f1, x.f1.f2, x.f1.f3, d⟩) = W1 at *
  generalize w1.heap.size = yb at *
  have p0 := (blk_cell X0.out 0).trans (show _ = some (.int .i64 x.f0) from rfl)
  have p1 := (blk_cell X0.out 1).trans (show _ = some (.int .i64 x.f1.f0) from rfl)
  have p2 := (blk_cell X0.out 2).trans (show _ = some (.int .i64 x.f1.f1) from rfl)
  have p3 := (blk_cell X0.out 3).trans (show _ = some (.int .i64 x.f1.f2) from rfl)
  have p4 := (blk_cell X0.out 4).trans (show _ = some (.int .i64 x.f1.f3) from rfl)
  have p5 := (blk_cell X0.out 5).trans (show _ = some (.int .i32 x.f1.f4) from rfl)
  have p6 := (blk_cell X0.out 6).trans (show _ = some (.int .i64 x.f2) from rfl)
  have q0 := (blk_cell Y0.out 0).trans (show _ = some (.int .i64 x.f1.f0) from rfl)
  have q1 := (blk_cell Y0.out 1).trans (show _ = some (.int .i64 x.f1.f1) from rfl)
  have q2 := (blk_cell Y0.out 2).trans (show _ = some (.int .i64 x.f1.f2) from rfl)
  have q3 := (blk_cell Y0.out 3).trans (show _ = some (.int .i64 x.f1.f3) from rfl)
  have q4 := (blk_cell Y0.out 4).trans (show _ = some (.int .i32 d) from rfl)
  go_upto_region 7 with (fail)
  go_quiet (fail)
  go_wp2_with fail
  go_ret2
  exact ⟨by simp [ht], pw_below_drewN L0.out nq⟩
set_option maxHeartbeats 16000000 in
set_option maxRecDepth 100000 in
theorem leads_long (s : ByteArray) (n : Int) (x : S37) (to_ : Int) (d : Int) (h2 : x.f2 ≠ 0) (ho : x.f1.f0 = 39 ∨ x.f1.f0 = 40) (hd : -2147483648 ≤ d ∧ d ≤ 2147483647) (hn : 0 ≤ n ∧ n ≤ 1000000) (ht : n + 2 + d = to_) (hw : Wd s n ⟨79 - x.f1.f0, x.f1.f1, x.f1.f2, x.f1.f3, 1⟩) (hz : Wd s (n + 1) ⟨41, 0, 0, 0, d⟩) (w : World) :
    Calls Try.prog 16 #[.string s, .int .i64 n, agL x, .int .i64 to_] w fun e w' => e = .returned (.tuple #[.int .i64 2, .bool true]) ∧ Below w.heap.size w w' := by
  have X0 := Aside0.mk (blk_new w (lb x))
  have L0 : Aside0 (Below w.heap.size w (w.alloc (lb x))) := ⟨below_alloc (Below.refl _ _) _⟩
  unfold Wd at hw
  replace hw := Aside0.mk hw
  unfold Wd at hz
  replace hz := Aside0.mk hz
  have e2 : (x.f2 == 0) = false := by simpa using h2
  replace h2 := Aside0.mk h2
  have e4 : (79 - x.f1.f0 == x.f1.f0) = false := beq_eq_false_iff_ne.2 (by omega)
  have k1 : IntKind.i64.wrap (n + 1) = n + 1 := IntWalk.i64_in _ (by omega)
  have k2 : IntKind.i64.wrap d = d := IntWalk.i64_in _ (by omega)
  have k3 : IntKind.i64.wrap (n + 2 + d) = n + 2 + d := IntWalk.i64_in _ (by omega)
  have k4 : IntKind.i64.wrap (n + 2) = n + 2 := IntWalk.i64_in _ (by omega)
  have k5 : IntKind.i64.wrap (79 - x.f1.f0) = 79 - x.f1.f0 := IntWalk.i64_in _ (by omega)
  have e3 : (n + 2 + d == to_) = true := by simpa using ht
  replace ho := Aside0.mk ho
  go_enter Try.func16, Try.ntmps16
  go_upto_region 1 with (fail)
  generalize w.alloc (lb x) = W0 at *
  go_upto_region 2 with (go_at_call 27; (with_reducible refine (hw.out _).mono ?_); rintro e w1 ⟨rfl, hb1⟩; replace X0 := Aside0.mk (blk_below X0.out hb1); replace L0 := Aside0.mk (below_step L0.out hb1); clear hb1)
  have Y0 := Aside0.mk (blk_new w1 (ib' ⟨79 - x.f1.f0, x.f1.f1, x.f1.f2, x.f1.f3, 1⟩))
  replace X0 := Aside0.mk (blk_alloc X0.out (ib' ⟨79 - x.f1.f0, x.f1.f1, x.f1.f2, x.f1.f3, 1⟩))
  replace L0 := Aside0.mk (below_alloc L0.out (ib' ⟨79 - x.f1.f0, x.f1.f1, x.f1.f2, x.f1.f3, 1⟩))
  generalize w1.alloc (ib' ⟨79 - x.f1.f0, x.f1.f1, x.f1.f2, x.f1.f3, 1⟩) = W1 at *
  generalize w1.heap.size = yb at *
  have p0 := (blk_cell X0.out 0).trans (show _ = some (.int .i64 x.f0) from rfl)
  have p1 := (blk_cell X0.out 1).trans (show _ = some (.int .i64 x.f1.f0) from rfl)
  have p2 := (blk_cell X0.out 2).trans (show _ = some (.int .i64 x.f1.f1) from rfl)
  have p3 := (blk_cell X0.out 3).trans (show _ = some (.int .i64 x.f1.f2) from rfl)
  have p4 := (blk_cell X0.out 4).trans (show _ = some (.int .i64 x.f1.f3) from rfl)
  have p5 := (blk_cell X0.out 5).trans (show _ = some (.int .i32 x.f1.f4) from rfl)
  have p6 := (blk_cell X0.out 6).trans (show _ = some (.int .i64 x.f2) from rfl)
  have q0 := (blk_cell Y0.out 0).trans (show _ = some (.int .i64 (79 - x.f1.f0)) from rfl)
  have q1 := (blk_cell Y0.out 1).trans (show _ = some (.int .i64 x.f1.f1) from rfl)
  have q2 := (blk_cell Y0.out 2).trans (show _ = some (.int .i64 x.f1.f2) from rfl)
  have q3 := (blk_cell Y0.out 3).trans (show _ = some (.int .i64 x.f1.f3) from rfl)
  have q4 := (blk_cell Y0.out 4).trans (show _ = some (.int .i32 1) from rfl)
  go_upto_region 9 with (go_at_call 27; (with_reducible refine (hz.out _).mono ?_); rintro e w2_ ⟨rfl, hb1⟩; replace X0 := Aside0.mk (blk_below X0.out hb1); replace Y0 := Aside0.mk (blk_below Y0.out hb1); replace L0 := Aside0.mk (below_step L0.out hb1); clear hb1)
  have Z0 := Aside0.mk (blk_new w2_ (ib' ⟨41, 0, 0, 0, d⟩))
  replace X0 := Aside0.mk (blk_alloc X0.out (ib' ⟨41, 0, 0, 0, d⟩))
  replace Y0 := Aside0.mk (blk_alloc Y0.out (ib' ⟨41, 0, 0, 0, d⟩))
  replace L0 := Aside0.mk (below_alloc L0.out (ib' ⟨41, 0, 0, 0, d⟩))
  clear p0 p1 p2 p3 p4 p5 p6 q0 q1 q2 q3 q4
  generalize w2_.alloc (ib' ⟨41, 0, 0, 0, d⟩) = W2 at *
  generalize w2_.heap.size = zb at *
  have p0 := (blk_cell X0.out 0).trans (show _ = some (.int .i64 x.f0) from rfl)
  have p1 := (blk_cell X0.out 1).trans (show _ = some (.int .i64 x.f1.f0) from rfl)
  have p2 := (blk_cell X0.out 2).trans (show _ = some (.int .i64 x.f1.f1) from rfl)
  have p3 := (blk_cell X0.out 3).trans (show _ = some (.int .i64 x.f1.f2) from rfl)
  have p4 := (blk_cell X0.out 4).trans (show _ = some (.int .i64 x.f1.f3) from rfl)
  have p5 := (blk_cell X0.out 5).trans (show _ = some (.int .i32 x.f1.f4) from rfl)
  have p6 := (blk_cell X0.out 6).trans (show _ = some (.int .i64 x.f2) from rfl)
  have q0 := (blk_cell Y0.out 0).trans (show _ = some (.int .i64 (79 - x.f1.f0)) from rfl)
  have q1 := (blk_cell Y0.out 1).trans (show _ = some (.int .i64 x.f1.f1) from rfl)
  have q2 := (blk_cell Y0.out 2).trans (show _ = some (.int .i64 x.f1.f2) from rfl)
  have q3 := (blk_cell Y0.out 3).trans (show _ = some (.int .i64 x.f1.f3) from rfl)
  have q4 := (blk_cell Y0.out 4).trans (show _ = some (.int .i32 1) from rfl)
  have r0 := (blk_cell Z0.out 0).trans (show _ = some (.int .i64 41) from rfl)
  have r1 := (blk_cell Z0.out 1).trans (show _ = some (.int .i64 0) from rfl)
  have r2 := (blk_cell Z0.out 2).trans (show _ = some (.int .i64 0) from rfl)
  have r3 := (blk_cell Z0.out 3).trans (show _ = some (.int .i64 0) from rfl)
  have r4 := (blk_cell Z0.out 4).trans (show _ = some (.int .i32 d) from rfl)
  go_upto_region 10 with (fail)
  go_quiet (fail)
  go_wp2_with fail
  go_ret2
  exact ⟨by simp [ht], pw_below_drewN L0.out nq⟩
end Go.Proofs.Ytdhmnjoceeolcaa.Asm
end
section
namespace Go.Proofs.Ytdhmnjoceeolcaa.GF
open Go.RowKit Go.Proofs.YtdhmnjoceeolcaaW.PrintWords Go.Proofs.YtdhmnjoceeolcaaW.PrintLast Go.Proofs.YtdhmnjoceeolcaaW.PrintMore
attribute [local go_sem] max2_int min2_int max_two min_two max_three min_three max_four min_four   -- for this text's walks alone
set_option linter.unusedVariables false
set_option linter.unusedSimpArgs false
mutual
def cruciblelaw06_Lines.j0 : Nat → List (S37) → Int → List (S37) → Int → Int → Int → Int → Int → Int → List (S37) → Option ((List (S37)))
  | 0, _, _, _, _, _, _, _, _, _, _ => none
  | k + 1, x3, x4, x102000, x102001, x102002, x102003, x102004, x102005, x102006, x102007 => cruciblelaw06_Lines.l0 k x3 x4 0 x102000 x102001 x102002 x102003 x102004 x102005 x102006 x102007
def cruciblelaw06_Lines.l0 : Nat → List (S37) → Int → Int → List (S37) → Int → Int → Int → Int → Int → Int → List (S37) → Option ((List (S37)))
  | 0, _, _, _, _, _, _, _, _, _, _, _ => none
  | k + 1, x3, x4, x5, x102000, x102001, x102002, x102003, x102004, x102005, x102006, x102007 => if x5 < x4 then (if x3.length < 2513169434916 then (cruciblelaw06_Lines.l0 k (x3 ++ [(⟨0, (⟨x102001, x102002, x102003, x102004, x102005⟩ : S24), 0⟩ : S37)]) x4 (wrap64 (x5 + 1)) x102000 x102001 x102002 x102003 x102004 x102005 x102006 x102007) else (none)) else (if x3.length + x102007.length < 2513169434916 then (some (x3 ++ x102007)) else (none))
end
def cruciblelaw06_Lines.f (k : Nat) (l0_0 : List (S37)) (a0_1 : Int) (a0_2 : Int) (a0_3 : Int) (a0_4 : Int) (a0_5 : Int) (a0_6 : Int) (l0_7 : List (S37)) : Option ((List (S37))) := if ([] : List (S37)).length + l0_0.length < 2513169434916 then ((some (([] : List (S37)) ++ l0_0 : List (S37))).bind fun y102 => (if a0_6 > 262153 then (cruciblelaw06_Lines.j0 k y102 262153 l0_0 a0_1 a0_2 a0_3 a0_4 a0_5 a0_6 l0_7) else (cruciblelaw06_Lines.j0 k y102 a0_6 l0_0 a0_1 a0_2 a0_3 a0_4 a0_5 a0_6 l0_7))) else (none)
set_option maxHeartbeats 8000000 in
set_option maxRecDepth 100000 in
theorem cruciblelaw06_Lines.calls (k : Nat) (A0_0 : Option Addr) (c0_0 : Nat) (l0_0 : List (S37)) (a0_1 : Int) (a0_2 : Int) (a0_3 : Int) (a0_4 : Int) (a0_5 : Int) (a0_6 : Int) (A0_7 : Option Addr) (c0_7 : Nat) (l0_7 : List (S37)) (r : List (S37)) (w : World) (hr0_0 : Kd.C k37 w A0_0 l0_0.length l0_0) (hc0_0 : l0_0.length ≤ c0_0) (hr0_7 : Kd.C k37 w A0_7 l0_7.length l0_7) (hc0_7 : l0_7.length ≤ c0_7) (h : cruciblelaw06_Lines.f k l0_0 a0_1 a0_2 a0_3 a0_4 a0_5 a0_6 l0_7 = some r) :
    Calls Try.prog 7 #[.agg #[.slice A0_0 l0_0.length c0_0, .int .i64 a0_1, .int .i64 a0_2, .int .i64 a0_3, .int .i64 a0_4, .int .i32 a0_5, .int .i64 a0_6, .slice A0_7 l0_7.length c0_7]] w fun e w' => ∃ v0_ : Value, e = .returned (v0_) ∧ Kd.R k37 37 w' w.heap.size (fun _ => True) v0_ r ∧ Below w.heap.size w w' := by
  have hu26 := Try.underlying26
  have hu24 := Try.underlying24
  have hu37 := Try.underlying37
  have HR0_0 := Aside0.mk hr0_0
  have HC0_0 := Aside0.mk hc0_0
  clear hr0_0 hc0_0
  have HR0_7 := Aside0.mk hr0_7
  have HC0_7 := Aside0.mk hc0_7
  clear hr0_7 hc0_7
  have HB := Aside0.mk (Below.refl w.heap.size w)
  have H : (if ([] : List (S37)).length + l0_0.length < 2513169434916 then ((some (([] : List (S37)) ++ l0_0 : List (S37))).bind fun y102 => (if a0_6 > 262153 then (cruciblelaw06_Lines.j0 k y102 262153 l0_0 a0_1 a0_2 a0_3 a0_4 a0_5 a0_6 l0_7) else (cruciblelaw06_Lines.j0 k y102 a0_6 l0_0 a0_1 a0_2 a0_3 a0_4 a0_5 a0_6 l0_7))) else (none)) = some r := h
  clear h
  by_cases c2 : ([] : List (S37)).length + l0_0.length < 2513169434916
  · rw [if_pos c2] at H
    have LMc2 := Aside0.mk c2
    clear c2
    obtain ⟨y102, hy102⟩ : ∃ y_ : List (S37), y_ = (([] : List (S37)) ++ l0_0) := ⟨_, rfl⟩
    replace H : (if a0_6 > 262153 then (cruciblelaw06_Lines.j0 k y102 262153 l0_0 a0_1 a0_2 a0_3 a0_4 a0_5 a0_6 l0_7) else (cruciblelaw06_Lines.j0 k y102 a0_6 l0_0 a0_1 a0_2 a0_3 a0_4 a0_5 a0_6 l0_7)) = some r := by first | (rw [hy102]; with_reducible exact H) | (have H2_ := (Option.bind_some _ _).symm.trans H; rw [hy102]; with_reducible exact H2_) | (have H2_ := (Option.bind_some _ _).symm.trans H; with_reducible exact H2_) | with_reducible exact H | (rw [hy102]; exact H) | exact H
    have Ny102 := Aside0.mk hy102
    clear hy102
    have HC3 := Aside0.mk H
    clear H
    go_enter Try.func7, Try.ntmps7
    go_upto_if 13 with (first | ((with_reducible refine gate_dst (N := 1) rfl ?_); refine box_event ?hg (N := 1) ?hd (cs := #[.slice A0_0 l0_0.length c0_0, .int .i64 a0_1, .int .i64 a0_2, .int .i64 a0_3, .int .i64 a0_4, .int .i32 a0_5, .int .i64 a0_6, .slice A0_7 l0_7.length c0_7]) (t := 26) ?hr ?_; (case hd => rfl); (case hg => rfl); (case hr => first | (go_simp; done) | (go_simp; rfl)); intro gb101 hg w4 hbox hb; have n0_ := Aside0.mk (below_step (by repeat (first | (with_reducible first | exact HB.out | apply below_alloc | apply pw_below_drewN | apply below_drew1) | exact HB.out)) hb); have n1_ := Aside0.mk (hbox); have n2_ := Aside0.mk ((by rw [hg]; exact (below_size (by repeat (first | (with_reducible first | exact HB.out | apply below_alloc | apply pw_below_drewN | apply below_drew1) | exact HB.out))) : w.heap.size ≤ gb101)); have n3_ := Aside0.mk ((by rw [hg]; exact (below_size (by repeat (first | (with_reducible first | exact HB.out | apply below_alloc | apply pw_below_drewN | apply below_drew1) | exact HB.out))) : w.heap.size ≤ gb101)); clear HB; have HB := n0_; have BK101 := n1_; have GW101 := n2_; have GE101 := n3_; clear n0_ n1_ n2_ n3_; clear hb hbox hg; have hcz5_0 : w4.cell? ⟨gb101, 0, none⟩ = some (.slice A0_0 l0_0.length c0_0) := (blk_cell BK101.out 0).trans rfl; have hcz5_1 : w4.cell? ⟨gb101, 1, none⟩ = some (.int .i64 a0_1) := (blk_cell BK101.out 1).trans rfl; have hcz5_2 : w4.cell? ⟨gb101, 2, none⟩ = some (.int .i64 a0_2) := (blk_cell BK101.out 2).trans rfl; have hcz5_3 : w4.cell? ⟨gb101, 3, none⟩ = some (.int .i64 a0_3) := (blk_cell BK101.out 3).trans rfl; have hcz5_4 : w4.cell? ⟨gb101, 4, none⟩ = some (.int .i64 a0_4) := (blk_cell BK101.out 4).trans rfl; have hcz5_5 : w4.cell? ⟨gb101, 5, none⟩ = some (.int .i32 a0_5) := (blk_cell BK101.out 5).trans rfl; have hcz5_6 : w4.cell? ⟨gb101, 6, none⟩ = some (.int .i64 a0_6) := (blk_cell BK101.out 6).trans rfl; have hcz5_7 : w4.cell? ⟨gb101, 7, none⟩ = some (.slice A0_7 l0_7.length c0_7) := (blk_cell BK101.out 7).trans rfl; have hfz5_0 := blk_frozen BK101.out 0; have hfz5_1 := blk_frozen BK101.out 1; have hfz5_2 := blk_frozen BK101.out 2; have hfz5_3 := blk_frozen BK101.out 3; have hfz5_4 := blk_frozen BK101.out 4; have hfz5_5 := blk_frozen BK101.out 5; have hfz5_6 := blk_frozen BK101.out 6; have hfz5_7 := blk_frozen BK101.out 7) | ((with_reducible refine gate_builtin (b := .append) (xs := #[.tmp 6, .tmp 8]) rfl ?_); at_builtin; refine Kd.R_append_rows k37 (w0 := w) w.heap.size rfl (.tmp 6) (.tmp 8) 22 37 (.agg #[(.int .i64 0), (.int .i64 0), (.int .i64 0), (.int .i64 0), (.int .i64 0), (.int .i32 0), (.int .i64 0)]) 56 rfl Try.underlying22 info37 rfl (by decide) (by omega) (.slice none 0 0) ([] : List (S37)) l0_0 _ _ _ (fun _ => True) (fun _ => False) rfl rfl ?aO ?aR (fun _ _ h => h) (fun _ h => h.elim) ?aF ?aB ?aS ?aL ?_; (case aR => repeat (first | exact (Kd.C_below HR0_0.out HB.out) | (with_reducible refine Kd.C_alloc ?_ _) | (with_reducible refine Kd.C_drewN ?_ _) | (with_reducible refine Kd.C_drew ?_))); (case aB => exact (by repeat (first | (with_reducible first | exact HB.out | apply below_alloc | apply pw_below_drewN | apply below_drew1 | refine below_set ?_ GE101.out) | exact HB.out))); (case aF => exact (fun _ _ => trivial)); (case aO => exact ((Kd.R_nil _ _ _ _ (fun _ => True)))); (case aS => exact (below_size (by repeat (first | (with_reducible first | exact HB.out | apply below_alloc | apply pw_below_drewN | apply below_drew1 | refine below_set ?_ GE101.out) | exact HB.out)))); (case aL => have := LMc2.out; omega); intro v103 w6 ho hb hg hat; rw [← Ny102.out] at ho; have n0_ := Aside0.mk (blk_grown (g := gb101) (o := .cells #[.slice A0_0 l0_0.length c0_0, .int .i64 a0_1, .int .i64 a0_2, .int .i64 a0_3, .int .i64 a0_4, .int .i32 a0_5, .int .i64 a0_6, .slice A0_7 l0_7.length c0_7] 26 (0, 0)) (by (with_reducible repeat (first | refine blk_drewN ?_ _ | refine blk_drew ?_ | refine blk_alloc ?_ _)); exact BK101.out) hg (by simp [Value.ownBlock])); have n1_ := Aside0.mk (hb); have n2_ := Aside0.mk (ho); clear BK101; clear HB; have BK101 := n0_; have HB := n1_; have HO104 := n2_; clear n0_ n1_ n2_; clear ho hb hg hat; have hcz7_0 : w6.cell? ⟨gb101, 0, none⟩ = some (.slice A0_0 l0_0.length c0_0) := (blk_cell BK101.out 0).trans rfl; have hcz7_1 : w6.cell? ⟨gb101, 1, none⟩ = some (.int .i64 a0_1) := (blk_cell BK101.out 1).trans rfl; have hcz7_2 : w6.cell? ⟨gb101, 2, none⟩ = some (.int .i64 a0_2) := (blk_cell BK101.out 2).trans rfl; have hcz7_3 : w6.cell? ⟨gb101, 3, none⟩ = some (.int .i64 a0_3) := (blk_cell BK101.out 3).trans rfl; have hcz7_4 : w6.cell? ⟨gb101, 4, none⟩ = some (.int .i64 a0_4) := (blk_cell BK101.out 4).trans rfl; have hcz7_5 : w6.cell? ⟨gb101, 5, none⟩ = some (.int .i32 a0_5) := (blk_cell BK101.out 5).trans rfl; have hcz7_6 : w6.cell? ⟨gb101, 6, none⟩ = some (.int .i64 a0_6) := (blk_cell BK101.out 6).trans rfl; have hcz7_7 : w6.cell? ⟨gb101, 7, none⟩ = some (.slice A0_7 l0_7.length c0_7) := (blk_cell BK101.out 7).trans rfl; have hfz7_0 := blk_frozen BK101.out 0; have hfz7_1 := blk_frozen BK101.out 1; have hfz7_2 := blk_frozen BK101.out 2; have hfz7_3 := blk_frozen BK101.out 3; have hfz7_4 := blk_frozen BK101.out 4; have hfz7_5 := blk_frozen BK101.out 5; have hfz7_6 := blk_frozen BK101.out 6; have hfz7_7 := blk_frozen BK101.out 7))
    (try simp only [Act.put, List.setIfInBounds_toArray, List.set_cons_zero, List.set_cons_succ])
    go_cut [4] (fun v4 wc => ∃ (kq : Nat) (x4_2 : Int), v4 = .int .i64 x4_2 ∧ Aside0 (cruciblelaw06_Lines.j0 kq y102 x4_2 l0_0 a0_1 a0_2 a0_3 a0_4 a0_5 a0_6 l0_7 = some r) ∧ Aside0 (kq ≤ k) ∧ Aside0 (Kd.R k37 37 wc w.heap.size (fun _ => True) v103 y102) ∧ Aside0 (wc.heap[gb101]? = some (.cells #[(.slice A0_0 l0_0.length c0_0), .int .i64 a0_1, .int .i64 a0_2, .int .i64 a0_3, .int .i64 a0_4, .int .i32 a0_5, .int .i64 a0_6, (.slice A0_7 l0_7.length c0_7)] 26 (0, 0))) ∧ Aside0 (Below w.heap.size w wc))
    case first =>
      have H := HC3.out
      clear HC3
      by_cases c8 : a0_6 > 262153
      · rw [if_pos c8] at H
        have c8b0 : decide (262153 < a0_6) = true := decide_eq_true c8
        clear c8
        (first | rw [c8b0] | (simp only [i64_w, i32_w]; rw [c8b0]) | skip)
        have H' := Aside0.mk H
        clear H
        go_wp2
        go_meet
        case rel => exact ⟨_, (262153), (by first | rfl | (simp; done) | (simp [*]; done)), H', ⟨by first | omega | exact Nat.le_refl _⟩, ⟨by (with_reducible repeat (first | apply Kd.R_alloc | apply Kd.R_drewN | apply Kd.R_drew)); exact HO104.out⟩, ⟨by (with_reducible repeat (first | refine blk_drewN ?_ _ | refine blk_drew ?_ | refine blk_alloc ?_ _)); exact BK101.out⟩, ⟨by repeat (first | (with_reducible first | exact HB.out | apply below_alloc | apply pw_below_drewN | apply below_drew1 | refine below_set ?_ GE101.out) | exact HB.out)⟩⟩
      · rw [if_neg c8] at H
        have c8b0 : decide (262153 < a0_6) = false := decide_eq_false c8
        clear c8
        (first | rw [c8b0] | (simp only [i64_w, i32_w]; rw [c8b0]) | skip)
        have H' := Aside0.mk H
        clear H
        go_wp2
        go_meet
        case rel => exact ⟨_, (a0_6), (by first | rfl | (simp; done) | (simp [*]; done)), H', ⟨by first | omega | exact Nat.le_refl _⟩, ⟨by (with_reducible repeat (first | apply Kd.R_alloc | apply Kd.R_drewN | apply Kd.R_drew)); exact HO104.out⟩, ⟨by (with_reducible repeat (first | refine blk_drewN ?_ _ | refine blk_drew ?_ | refine blk_alloc ?_ _)); exact BK101.out⟩, ⟨by repeat (first | (with_reducible first | exact HB.out | apply below_alloc | apply pw_below_drewN | apply below_drew1 | refine below_set ?_ GE101.out) | exact HB.out)⟩⟩
    case rest =>
      clear HC3
      try clear c2
      try clear p2
      try clear c7
      try clear c8
      try clear c8b0
      try clear hcz5_0
      try clear hcz5_1
      try clear hcz5_2
      try clear hcz5_3
      try clear hcz5_4
      try clear hcz5_5
      try clear hcz5_6
      try clear hcz5_7
      try clear hcz7_0
      try clear hcz7_1
      try clear hcz7_2
      try clear hcz7_3
      try clear hcz7_4
      try clear hcz7_5
      try clear hcz7_6
      try clear hcz7_7
      try clear hfz5_0
      try clear hfz5_1
      try clear hfz5_2
      try clear hfz5_3
      try clear hfz5_4
      try clear hfz5_5
      try clear hfz5_6
      try clear hfz5_7
      try clear hfz7_0
      try clear hfz7_1
      try clear hfz7_2
      try clear hfz7_3
      try clear hfz7_4
      try clear hfz7_5
      try clear hfz7_6
      try clear hfz7_7
      obtain ⟨kq, x4_2, rfl, HA, HJ2, HO_3, BK101, HB⟩ := hcut
      cases kq with
      | zero => exact absurd HA.out (by simp [cruciblelaw06_Lines.j0])
      | succ kj2 =>
        have H := HA.out
        clear HA
        simp only [cruciblelaw06_Lines.j0] at H
        have H' := Aside0.mk H
        clear H
        go_wp2
        go_loopg [3, 5] kj2 (fun kq v3 v5 w' => ∃ (x3_2 : List (S37)) (x5_2 : Int), v5 = .int .i64 x5_2 ∧ Aside0 (cruciblelaw06_Lines.l0 kq x3_2 x4_2 x5_2 l0_0 a0_1 a0_2 a0_3 a0_4 a0_5 a0_6 l0_7 = some r) ∧ Aside0 (kq ≤ kj2) ∧ Aside0 (Kd.R k37 37 w' w.heap.size (fun _ => True) v3 x3_2) ∧ Aside0 (w'.heap[gb101]? = some (.cells #[(.slice A0_0 l0_0.length c0_0), .int .i64 a0_1, .int .i64 a0_2, .int .i64 a0_3, .int .i64 a0_4, .int .i32 a0_5, .int .i64 a0_6, (.slice A0_7 l0_7.length c0_7)] 26 (0, 0))) ∧ Aside0 (Below w.heap.size w w'))
        case atStart => exact ⟨(y102), (0), (by first | rfl | (simp; done) | (simp [*]; done)), H', ⟨Nat.le_refl _⟩, ⟨by (with_reducible repeat (first | apply Kd.R_alloc | apply Kd.R_drewN | apply Kd.R_drew)); exact HO_3.out⟩, ⟨by (with_reducible repeat (first | refine blk_drewN ?_ _ | refine blk_drew ?_ | refine blk_alloc ?_ _)); exact BK101.out⟩, ⟨by repeat (first | (with_reducible first | exact HB.out | apply below_alloc | apply pw_below_drewN | apply below_drew1 | refine below_set ?_ GE101.out) | exact HB.out)⟩⟩
        case round =>
          clear H'
          try clear c2
          try clear p2
          try clear c7
          try clear c8
          try clear c8b0
          try clear hcz5_0
          try clear hcz5_1
          try clear hcz5_2
          try clear hcz5_3
          try clear hcz5_4
          try clear hcz5_5
          try clear hcz5_6
          try clear hcz5_7
          try clear hcz7_0
          try clear hcz7_1
          try clear hcz7_2
          try clear hcz7_3
          try clear hcz7_4
          try clear hcz7_5
          try clear hcz7_6
          try clear hcz7_7
          try clear hfz5_0
          try clear hfz5_1
          try clear hfz5_2
          try clear hfz5_3
          try clear hfz5_4
          try clear hfz5_5
          try clear hfz5_6
          try clear hfz5_7
          try clear hfz7_0
          try clear hfz7_1
          try clear hfz7_2
          try clear hfz7_3
          try clear hfz7_4
          try clear hfz7_5
          try clear hfz7_6
          try clear hfz7_7
          try clear p2
          obtain ⟨x3_2, x5_2, rfl, HA, HK2, HO_3, BK101, HB⟩ := hrel
          cases gk with
          | zero => exact absurd HA.out (by simp [cruciblelaw06_Lines.l0])
          | succ k2 =>
            have H := HA.out
            clear HA
            simp only [cruciblelaw06_Lines.l0] at H
            by_cases c9 : x5_2 < x4_2
            · rw [if_pos c9] at H
              have c9b0 : decide (x5_2 < x4_2) = true := decide_eq_true c9
              clear c9
              by_cases c10 : x3_2.length < 2513169434916
              · rw [if_pos c10] at H
                have LMc10 := Aside0.mk c10
                clear c10
                obtain ⟨y105, hy105⟩ : ∃ y_ : List (S37), y_ = (x3_2 ++ [(⟨0, (⟨a0_1, a0_2, a0_3, a0_4, a0_5⟩ : S24), 0⟩ : S37)]) := ⟨_, rfl⟩
                replace H : (cruciblelaw06_Lines.l0 k2 y105 x4_2 (wrap64 (x5_2 + 1)) l0_0 a0_1 a0_2 a0_3 a0_4 a0_5 a0_6 l0_7) = some r := by first | (rw [hy105]; with_reducible exact H) | (have H2_ := (Option.bind_some _ _).symm.trans H; rw [hy105]; with_reducible exact H2_) | (have H2_ := (Option.bind_some _ _).symm.trans H; with_reducible exact H2_) | with_reducible exact H | (rw [hy105]; exact H) | exact H
                have Ny105 := Aside0.mk hy105
                clear hy105
                have H' := Aside0.mk H
                clear H
                have hcz11_0 : wr.cell? ⟨gb101, 0, none⟩ = some (.slice A0_0 l0_0.length c0_0) := (blk_cell BK101.out 0).trans rfl
                have hcz11_1 : wr.cell? ⟨gb101, 1, none⟩ = some (.int .i64 a0_1) := (blk_cell BK101.out 1).trans rfl
                have hcz11_2 : wr.cell? ⟨gb101, 2, none⟩ = some (.int .i64 a0_2) := (blk_cell BK101.out 2).trans rfl
                have hcz11_3 : wr.cell? ⟨gb101, 3, none⟩ = some (.int .i64 a0_3) := (blk_cell BK101.out 3).trans rfl
                have hcz11_4 : wr.cell? ⟨gb101, 4, none⟩ = some (.int .i64 a0_4) := (blk_cell BK101.out 4).trans rfl
                have hcz11_5 : wr.cell? ⟨gb101, 5, none⟩ = some (.int .i32 a0_5) := (blk_cell BK101.out 5).trans rfl
                have hcz11_6 : wr.cell? ⟨gb101, 6, none⟩ = some (.int .i64 a0_6) := (blk_cell BK101.out 6).trans rfl
                have hcz11_7 : wr.cell? ⟨gb101, 7, none⟩ = some (.slice A0_7 l0_7.length c0_7) := (blk_cell BK101.out 7).trans rfl
                have hfz11_0 := blk_frozen BK101.out 0
                have hfz11_1 := blk_frozen BK101.out 1
                have hfz11_2 := blk_frozen BK101.out 2
                have hfz11_3 := blk_frozen BK101.out 3
                have hfz11_4 := blk_frozen BK101.out 4
                have hfz11_5 := blk_frozen BK101.out 5
                have hfz11_6 := blk_frozen BK101.out 6
                have hfz11_7 := blk_frozen BK101.out 7
                go_wp2_with (first | ((with_reducible refine gate_builtin (b := .append) (xs := #[.tmp 19, .tmp 23]) rfl ?_); at_builtin; refine Kd.R_append k37 (w0 := w) w.heap.size rfl (.tmp 19) (.tmp 23) 22 37 (.agg #[(.int .i64 0), (.int .i64 0), (.int .i64 0), (.int .i64 0), (.int .i64 0), (.int .i32 0), (.int .i64 0)]) 56 rfl Try.underlying22 info37 rfl (by decide) (by omega) u3 x3_2 (⟨0, (⟨a0_1, a0_2, a0_3, a0_4, a0_5⟩ : S24), 0⟩ : S37) [.int .i64 0, .int .i64 a0_1, .int .i64 a0_2, .int .i64 a0_3, .int .i64 a0_4, .int .i32 a0_5, .int .i64 0] (fun _ => True) (fun _ => False) rfl rfl ?aP (fun _ hk => hk.elim) ?aF ?aO ?aB ?aS ?aL ?_; (case aP => exact k37_mkM _ _ _ (⟨0, (⟨a0_1, a0_2, a0_3, a0_4, a0_5⟩ : S24), 0⟩ : S37)); (case aB => exact (by repeat (first | (with_reducible first | exact HB.out | apply below_alloc | apply pw_below_drewN | apply below_drew1 | refine below_set ?_ GE101.out) | exact HB.out))); (case aF => exact (fun _ _ => trivial)); (case aO => exact (by (with_reducible repeat (first | apply Kd.R_alloc | apply Kd.R_drewN | apply Kd.R_drew)); exact HO_3.out)); (case aS => exact (below_size (by repeat (first | (with_reducible first | exact HB.out | apply below_alloc | apply pw_below_drewN | apply below_drew1 | refine below_set ?_ GE101.out) | exact HB.out)))); (case aL => have := LMc10.out; omega); intro v106 w12 ho hb hg hat; rw [← Ny105.out] at ho; have n0_ := Aside0.mk (blk_grown (g := gb101) (o := .cells #[.slice A0_0 l0_0.length c0_0, .int .i64 a0_1, .int .i64 a0_2, .int .i64 a0_3, .int .i64 a0_4, .int .i32 a0_5, .int .i64 a0_6, .slice A0_7 l0_7.length c0_7] 26 (0, 0)) (by (with_reducible repeat (first | refine blk_drewN ?_ _ | refine blk_drew ?_ | refine blk_alloc ?_ _)); exact BK101.out) hg (Kd.R_ne HO_3.out BK101.out (by decide))); have n1_ := Aside0.mk (hb); have n2_ := Aside0.mk (ho); clear BK101; clear HB; clear HO_3; have BK101 := n0_; have HB := n1_; have HO107 := n2_; clear n0_ n1_ n2_; clear ho hb hg hat))
                go_roundg k2
                case measure => have := HJ2.out; have := HK2.out; omega
                case rel => exact ⟨(y105), (wrap64 (x5_2 + 1)), (by first | rfl | (simp; done) | (simp [*]; done)), H', ⟨by have := HJ2.out; have := HK2.out; omega⟩, ⟨by (with_reducible repeat (first | apply Kd.R_alloc | apply Kd.R_drewN | apply Kd.R_drew)); exact HO107.out⟩, ⟨by (with_reducible repeat (first | refine blk_drewN ?_ _ | refine blk_drew ?_ | refine blk_alloc ?_ _)); exact BK101.out⟩, ⟨by repeat (first | (with_reducible first | exact HB.out | apply below_alloc | apply pw_below_drewN | apply below_drew1 | refine below_set ?_ GE101.out) | exact HB.out)⟩⟩
              · rw [if_neg c10] at H
                exact absurd H (by simp)
            · rw [if_neg c9] at H
              have c9b0 : decide (x5_2 < x4_2) = false := decide_eq_false c9
              clear c9
              by_cases c13 : x3_2.length + l0_7.length < 2513169434916
              · rw [if_pos c13] at H
                have LMc13 := Aside0.mk c13
                clear c13
                obtain ⟨y108, hy108⟩ : ∃ y_ : List (S37), y_ = (x3_2 ++ l0_7) := ⟨_, rfl⟩
                replace H : (some y108) = some r := by first | (rw [hy108]; with_reducible exact H) | (have H2_ := (Option.bind_some _ _).symm.trans H; rw [hy108]; with_reducible exact H2_) | (have H2_ := (Option.bind_some _ _).symm.trans H; with_reducible exact H2_) | with_reducible exact H | (rw [hy108]; exact H) | exact H
                have Ny108 := Aside0.mk hy108
                clear hy108
                obtain rfl := Option.some.inj H
                have hcz14_0 : wr.cell? ⟨gb101, 0, none⟩ = some (.slice A0_0 l0_0.length c0_0) := (blk_cell BK101.out 0).trans rfl
                have hcz14_1 : wr.cell? ⟨gb101, 1, none⟩ = some (.int .i64 a0_1) := (blk_cell BK101.out 1).trans rfl
                have hcz14_2 : wr.cell? ⟨gb101, 2, none⟩ = some (.int .i64 a0_2) := (blk_cell BK101.out 2).trans rfl
                have hcz14_3 : wr.cell? ⟨gb101, 3, none⟩ = some (.int .i64 a0_3) := (blk_cell BK101.out 3).trans rfl
                have hcz14_4 : wr.cell? ⟨gb101, 4, none⟩ = some (.int .i64 a0_4) := (blk_cell BK101.out 4).trans rfl
                have hcz14_5 : wr.cell? ⟨gb101, 5, none⟩ = some (.int .i32 a0_5) := (blk_cell BK101.out 5).trans rfl
                have hcz14_6 : wr.cell? ⟨gb101, 6, none⟩ = some (.int .i64 a0_6) := (blk_cell BK101.out 6).trans rfl
                have hcz14_7 : wr.cell? ⟨gb101, 7, none⟩ = some (.slice A0_7 l0_7.length c0_7) := (blk_cell BK101.out 7).trans rfl
                have hfz14_0 := blk_frozen BK101.out 0
                have hfz14_1 := blk_frozen BK101.out 1
                have hfz14_2 := blk_frozen BK101.out 2
                have hfz14_3 := blk_frozen BK101.out 3
                have hfz14_4 := blk_frozen BK101.out 4
                have hfz14_5 := blk_frozen BK101.out 5
                have hfz14_6 := blk_frozen BK101.out 6
                have hfz14_7 := blk_frozen BK101.out 7
                go_wp2_with (first | ((with_reducible refine gate_builtin (b := .append) (xs := #[.tmp 25, .tmp 27]) rfl ?_); at_builtin; refine Kd.R_append_rows k37 (w0 := w) w.heap.size rfl (.tmp 25) (.tmp 27) 22 37 (.agg #[(.int .i64 0), (.int .i64 0), (.int .i64 0), (.int .i64 0), (.int .i64 0), (.int .i32 0), (.int .i64 0)]) 56 rfl Try.underlying22 info37 rfl (by decide) (by omega) u3 x3_2 l0_7 _ _ _ (fun _ => True) (fun _ => False) rfl rfl ?aO ?aR (fun _ _ h => h) (fun _ h => h.elim) ?aF ?aB ?aS ?aL ?_; (case aR => repeat (first | exact (Kd.C_below HR0_7.out HB.out) | (with_reducible refine Kd.C_alloc ?_ _) | (with_reducible refine Kd.C_drewN ?_ _) | (with_reducible refine Kd.C_drew ?_))); (case aB => exact (by repeat (first | (with_reducible first | exact HB.out | apply below_alloc | apply pw_below_drewN | apply below_drew1 | refine below_set ?_ GE101.out) | exact HB.out))); (case aF => exact (fun _ _ => trivial)); (case aO => exact (by (with_reducible repeat (first | apply Kd.R_alloc | apply Kd.R_drewN | apply Kd.R_drew)); exact HO_3.out)); (case aS => exact (below_size (by repeat (first | (with_reducible first | exact HB.out | apply below_alloc | apply pw_below_drewN | apply below_drew1 | refine below_set ?_ GE101.out) | exact HB.out)))); (case aL => have := LMc13.out; omega); intro v109 w15 ho hb hg hat; rw [← Ny108.out] at ho; have n0_ := Aside0.mk (blk_grown (g := gb101) (o := .cells #[.slice A0_0 l0_0.length c0_0, .int .i64 a0_1, .int .i64 a0_2, .int .i64 a0_3, .int .i64 a0_4, .int .i32 a0_5, .int .i64 a0_6, .slice A0_7 l0_7.length c0_7] 26 (0, 0)) (by (with_reducible repeat (first | refine blk_drewN ?_ _ | refine blk_drew ?_ | refine blk_alloc ?_ _)); exact BK101.out) hg (Kd.R_ne HO_3.out BK101.out (by decide))); have n1_ := Aside0.mk (hb); have n2_ := Aside0.mk (ho); clear BK101; clear HB; clear HO_3; have BK101 := n0_; have HB := n1_; have HO110 := n2_; clear n0_ n1_ n2_; clear ho hb hg hat))
                go_ret
                exact ⟨_, by first | rfl | (simp [errW_none, errW_some] <;> rfl) | (simp [*, errW_none, errW_some] <;> rfl), by (with_reducible repeat (first | apply Kd.R_alloc | apply Kd.R_drewN | apply Kd.R_drew)); exact HO110.out, by repeat (first | (with_reducible first | exact HB.out | apply below_alloc | apply pw_below_drewN | apply below_drew1 | refine below_set ?_ GE101.out) | exact HB.out)⟩
              · rw [if_neg c13] at H
                exact absurd H (by simp)
  · rw [if_neg c2] at H
    exact absurd H (by simp)
end Go.Proofs.Ytdhmnjoceeolcaa.GF
end
section
namespace Go.Proofs.Ytdhmnjoceeolcaa.GF
open Go.RowKit Go.Proofs.YtdhmnjoceeolcaaW.PrintWords Go.Proofs.YtdhmnjoceeolcaaW.PrintLast Go.Proofs.YtdhmnjoceeolcaaW.PrintMore
attribute [local go_sem] max2_int min2_int max_two min_two max_three min_three max_four min_four   -- for this text's walks alone
set_option linter.unusedVariables false
set_option linter.unusedSimpArgs false
attribute [local go_sem high] eqA24
def asm_Assemble.f (l0 : List (S37)) : Option (ByteArray × Int) := some (Asm.asmV l0)
theorem asm_Assemble.calls (A0 : Option Addr) (c0 : Nat) (l0 : List (S37)) (r1 : ByteArray) (r2 : Int) (w : World) (hr0 : Kd.C k37 w A0 l0.length l0) (hc0 : l0.length ≤ c0) (h : asm_Assemble.f l0 = some (r1, r2)) :
    Calls Try.prog 8 #[.slice A0 l0.length c0] w fun e w' => e = .returned (.tuple #[.string r1, .int .i64 r2]) ∧ Below w.heap.size w w' := by
  obtain ⟨h1, h2⟩ : (Asm.asmV l0).1 = r1 ∧ (Asm.asmV l0).2 = r2 := by have := Option.some.inj h; rw [this]; exact ⟨rfl, rfl⟩
  subst h1
  subst h2
  exact Asm.assemble_calls ⟨hr0⟩
def cruciblelaw06_own.f (l0 : List (S37)) : Option ((List (S37))) := if ([] : List (S37)).length + l0.length < 2513169434916 then (some (([] : List (S37)) ++ l0)) else (none)
set_option maxHeartbeats 8000000 in
set_option maxRecDepth 100000 in
theorem cruciblelaw06_own.calls (A0 : Option Addr) (c0 : Nat) (l0 : List (S37)) (r : List (S37)) (w : World) (hr0 : Kd.C k37 w A0 l0.length l0) (hc0 : l0.length ≤ c0) (h : cruciblelaw06_own.f l0 = some r) :
    Calls Try.prog 9 #[.slice A0 l0.length c0] w fun e w' => ∃ v0_ : Value, e = .returned (v0_) ∧ Kd.R k37 37 w' w.heap.size (fun _ => True) v0_ r ∧ Below w.heap.size w w' := by
  have HR0 := Aside0.mk hr0
  have HC0 := Aside0.mk hc0
  clear hr0 hc0
  have HB := Aside0.mk (Below.refl w.heap.size w)
  have H : (if ([] : List (S37)).length + l0.length < 2513169434916 then (some (([] : List (S37)) ++ l0)) else (none)) = some r := h
  clear h
  by_cases c2 : ([] : List (S37)).length + l0.length < 2513169434916
  · rw [if_pos c2] at H
    have LMc2 := Aside0.mk c2
    clear c2
    obtain ⟨y125, hy125⟩ : ∃ y_ : List (S37), y_ = (([] : List (S37)) ++ l0) := ⟨_, rfl⟩
    replace H : (some y125) = some r := by first | (rw [hy125]; with_reducible exact H) | (have H2_ := (Option.bind_some _ _).symm.trans H; rw [hy125]; with_reducible exact H2_) | (have H2_ := (Option.bind_some _ _).symm.trans H; with_reducible exact H2_) | with_reducible exact H | (rw [hy125]; exact H) | exact H
    have Ny125 := Aside0.mk hy125
    clear hy125
    obtain rfl := Option.some.inj H
    go_enter Try.func9, Try.ntmps9
    go_wp2_with (first | ((with_reducible refine gate_builtin (b := .append) (xs := #[.tmp 4, .tmp 5]) rfl ?_); at_builtin; refine Kd.R_append_rows k37 (w0 := w) w.heap.size rfl (.tmp 4) (.tmp 5) 22 37 (.agg #[(.int .i64 0), (.int .i64 0), (.int .i64 0), (.int .i64 0), (.int .i64 0), (.int .i32 0), (.int .i64 0)]) 56 rfl Try.underlying22 info37 rfl (by decide) (by omega) (.slice none 0 0) ([] : List (S37)) l0 _ _ _ (fun _ => True) (fun _ => False) rfl rfl ?aO ?aR (fun _ _ h => h) (fun _ h => h.elim) ?aF ?aB ?aS ?aL ?_; (case aR => repeat (first | exact HR0.out | (with_reducible refine Kd.C_alloc ?_ _) | (with_reducible refine Kd.C_drewN ?_ _) | (with_reducible refine Kd.C_drew ?_))); (case aB => exact (by repeat (first | (with_reducible first | exact HB.out | apply below_alloc | apply pw_below_drewN | apply below_drew1) | exact HB.out))); (case aF => exact (fun _ _ => trivial)); (case aO => exact ((Kd.R_nil _ _ _ _ (fun _ => True)))); (case aS => exact (below_size (by repeat (first | (with_reducible first | exact HB.out | apply below_alloc | apply pw_below_drewN | apply below_drew1) | exact HB.out)))); (case aL => have := LMc2.out; omega); intro v126 w3 ho hb hg hat; rw [← Ny125.out] at ho; have n0_ := Aside0.mk (hb); have n1_ := Aside0.mk (ho); clear HB; have HB := n0_; have HO127 := n1_; clear n0_ n1_; clear ho hb hg hat))
    go_ret
    exact ⟨_, by first | rfl | (simp [errW_none, errW_some] <;> rfl) | (simp [*, errW_none, errW_some] <;> rfl), by (with_reducible repeat (first | apply Kd.R_alloc | apply Kd.R_drewN | apply Kd.R_drew)); exact HO127.out, by repeat (first | (with_reducible first | exact HB.out | apply below_alloc | apply pw_below_drewN | apply below_drew1) | exact HB.out)⟩
  · rw [if_neg c2] at H
    exact absurd H (by simp)
def cruciblelaw06_awake.f  : Option (Bool) := (asm_Assemble.f (([(⟨1, (⟨0, 0, 0, 0, 0⟩ : S24), 0⟩ : S37), (⟨0, (⟨32, 1, 1, 0, (-1)⟩ : S24), 0⟩ : S37), (⟨0, (⟨40, 0, 1, 0, 0⟩ : S24), 1⟩ : S37)] : List (S37)))).bind fun bt131 => (if bt131.2 = 0 then (if (bt131.1.size : Int) = 8 then (if 4 < (bt131.1.size : Int) then (some ((bt bt131.1 4) == 254)) else (none)) else (some false)) else (some false))
set_option maxHeartbeats 8000000 in
set_option maxRecDepth 100000 in
theorem cruciblelaw06_awake.calls  (r : Bool) (w : World) (h : cruciblelaw06_awake.f  = some r) :
    Calls Try.prog 13 #[] w fun e w' => e = .returned (.bool r) ∧ Below w.heap.size w w' := by
  have hu37 := Try.underlying37
  have hu24 := Try.underlying24
  have HB := Aside0.mk (Below.refl w.heap.size w)
  have H : ((asm_Assemble.f (([(⟨1, (⟨0, 0, 0, 0, 0⟩ : S24), 0⟩ : S37), (⟨0, (⟨32, 1, 1, 0, (-1)⟩ : S24), 0⟩ : S37), (⟨0, (⟨40, 0, 1, 0, 0⟩ : S24), 1⟩ : S37)] : List (S37)))).bind fun bt131 => (if bt131.2 = 0 then (if (bt131.1.size : Int) = 8 then (if 4 < (bt131.1.size : Int) then (some ((bt bt131.1 4) == 254)) else (none)) else (some false)) else (some false))) = some r := h
  clear h
  obtain ⟨y128, hy128⟩ : ∃ y_ : List (S37), y_ = (([(⟨1, (⟨0, 0, 0, 0, 0⟩ : S24), 0⟩ : S37), (⟨0, (⟨32, 1, 1, 0, (-1)⟩ : S24), 0⟩ : S37), (⟨0, (⟨40, 0, 1, 0, 0⟩ : S24), 1⟩ : S37)] : List (S37))) := ⟨_, rfl⟩
  replace H : ((asm_Assemble.f y128).bind fun bt131 => (if bt131.2 = 0 then (if (bt131.1.size : Int) = 8 then (if 4 < (bt131.1.size : Int) then (some ((bt bt131.1 4) == 254)) else (none)) else (some false)) else (some false))) = some r := by first | (rw [hy128]; with_reducible exact H) | (have H2_ := (Option.bind_some _ _).symm.trans H; rw [hy128]; with_reducible exact H2_) | (have H2_ := (Option.bind_some _ _).symm.trans H; with_reducible exact H2_) | with_reducible exact H | (rw [hy128]; exact H) | exact H
  have Ny128 := Aside0.mk hy128
  clear hy128
  replace H := Option.bind_eq_some_iff.mp H
  obtain ⟨⟨t131, t132⟩, A10, H⟩ := H
  replace H : (if t132 = 0 then (if (t131.size : Int) = 8 then (if 4 < (t131.size : Int) then (some ((bt t131 4) == 254)) else (none)) else (some false)) else (some false)) = some r := H
  have A1 := Aside0.mk A10
  clear A10
  by_cases c2 : t132 = 0
  · rw [if_pos c2] at H
    have c2b0 : (t132 == 0) = true := beq_iff_eq.mpr c2
    have c2b1 : (t132 != 0) = false := bne_eq_false_iff_eq.mpr c2
    clear c2
    by_cases c3 : (t131.size : Int) = 8
    · rw [if_pos c3] at H
      have c3b0 : ((t131.size : Int) == 8) = true := beq_iff_eq.mpr c3
      have c3b1 : ((t131.size : Int) != 8) = false := bne_eq_false_iff_eq.mpr c3
      clear c3
      by_cases c4 : 4 < (t131.size : Int)
      · rw [if_pos c4] at H
        have c4b0 : decide (4 < (t131.size : Int)) = true := decide_eq_true c4
        have c4b1 : decide (4 < t131.size) = true := decide_eq_true (by omega)
        clear c4
        obtain rfl := Option.some.inj H
        go_enter Try.func13, Try.ntmps13
        go_wp2_with (first | ((with_reducible refine gate_dst (N := 9) rfl ?_); (try (refine gate_guard (by rfl) ?_; dsimp only)); refine Kd.R_lit k37 _ 37 ?hg (N := 9) ?hd (xs := ([(⟨1, (⟨0, 0, 0, 0, 0⟩ : S24), 0⟩ : S37), (⟨0, (⟨32, 1, 1, 0, (-1)⟩ : S24), 0⟩ : S37), (⟨0, (⟨40, 0, 1, 0, 0⟩ : S24), 1⟩ : S37)] : List (S37))) (inner := [.int .i64 1, .int .i64 0, .int .i64 0, .int .i64 0, .int .i64 0, .int .i32 0, .int .i64 0, .int .i64 0, .int .i64 32, .int .i64 1, .int .i64 1, .int .i64 0, .int .i32 (-1), .int .i64 0, .int .i64 0, .int .i64 40, .int .i64 0, .int .i64 1, .int .i64 0, .int .i32 0, .int .i64 1]) (ok := fun _ => True) (okp := fun _ => True) ?hr ?hp (fun _ hk => hk) trivial (Below.refl _ _) (Nat.le_refl _) (by simp) ?_; (case hd => rfl); (case hg => rfl); (case hr => first | (go_simp; done) | (go_simp; rfl)); (case hp => exact (Reps.c7 (show Kd.M k37 _ _ _ (⟨1, (⟨0, 0, 0, 0, 0⟩ : S24), 0⟩ : S37) [.int .i64 1, .int .i64 0, .int .i64 0, .int .i64 0, .int .i64 0, .int .i32 0, .int .i64 0] from (k37_mkM _ _ _ (⟨1, (⟨0, 0, 0, 0, 0⟩ : S24), 0⟩ : S37) )) (Reps.c7 (show Kd.M k37 _ _ _ (⟨0, (⟨32, 1, 1, 0, (-1)⟩ : S24), 0⟩ : S37) [.int .i64 0, .int .i64 32, .int .i64 1, .int .i64 1, .int .i64 0, .int .i32 (-1), .int .i64 0] from (k37_mkM _ _ _ (⟨0, (⟨32, 1, 1, 0, (-1)⟩ : S24), 0⟩ : S37) )) (Reps.c7 (show Kd.M k37 _ _ _ (⟨0, (⟨40, 0, 1, 0, 0⟩ : S24), 1⟩ : S37) [.int .i64 0, .int .i64 40, .int .i64 0, .int .i64 1, .int .i64 0, .int .i32 0, .int .i64 1] from (k37_mkM _ _ _ (⟨0, (⟨40, 0, 1, 0, 0⟩ : S24), 1⟩ : S37) )) (Reps.none _ _))))); intro v129 w6 ho7 hb hg_ hnew_; clear hg_ hnew_; (first | rw [← Ny128.out] at ho7 | (simp only [Int.reduceToNat] at ho7; rw [← Ny128.out] at ho7)); have n0_ := Aside0.mk (Kd.R_lower ho7 (below_size (by repeat (first | (with_reducible first | exact HB.out | apply below_alloc | apply pw_below_drewN | apply below_drew1) | exact HB.out)))); have n1_ := Aside0.mk (below_step (by repeat (first | (with_reducible first | exact HB.out | apply below_alloc | apply pw_below_drewN | apply below_drew1) | exact HB.out)) hb); clear HB; have HO130 := n0_; have HB := n1_; clear n0_ n1_; clear hb ho7; obtain ⟨Ao8, co8, eo8⟩ := Kd.R_slice HO130.out; subst eo8) | ((with_reducible refine gate_callee (f := 8) rfl ?_); refine goesL_ (some 10) rfl rfl Try.func8 (by kernel_rfl) rfl #[.slice Ao8 y128.length co8] rfl (by (try simp only [List.map_toArray, List.map_cons, List.map_nil]); first | done | rfl | (simp only [List.length_drop, List.length_take]; rfl)) ?_; (with_reducible refine (asm_Assemble.calls _ _ y128 t131 t132 _ ?side1 ?side2 A1.out).mono ?_); (case side1 => repeat (first | exact (Kd.R_reads' HO130.out).2.2 | (with_reducible refine Kd.C_alloc ?_ _) | (with_reducible refine Kd.C_drewN ?_ _) | (with_reducible refine Kd.C_drew ?_))); (case side2 => exact (Kd.R_reads' HO130.out).2.1); rintro e w9 ⟨rfl, hb⟩; refine ⟨_, rfl, ?_⟩; have n0_ := Aside0.mk (Kd.R_below (by (with_reducible repeat (first | apply Kd.R_alloc | apply Kd.R_drewN | apply Kd.R_drew)); exact HO130.out) hb); have n1_ := Aside0.mk (below_step (by repeat (first | (with_reducible first | exact HB.out | apply below_alloc | apply pw_below_drewN | apply below_drew1) | exact HB.out)) hb); clear HO130; clear HB; have HO130 := n0_; have HB := n1_; clear n0_ n1_; (try clear hb); (try clear hb2); (try clear hk); (try clear hi); have p5 : 0 ≤ (4 : Int) := (by omega); have q5 : 4 < t131.size := (by have : (4 : Int) < (t131.size : Int) := of_decide_eq_true (by first | (with_reducible assumption) | assumption); omega); have hx5 : ∀ h : 4 < t131.size, ((t131[4]'h).toNat : Int) = bt t131 4 := bt_at t131 4; clear p5; have qi5 : (4 < (t131.size : Int)) = True := eq_true (of_decide_eq_true (by first | (with_reducible assumption) | assumption)); replace q5 := eq_true q5))
        go_ret
        exact ⟨by first | rfl | (simp [errW_none, errW_some] <;> rfl) | (simp [*, errW_none, errW_some] <;> rfl), by repeat (first | (with_reducible first | exact HB.out | apply below_alloc | apply pw_below_drewN | apply below_drew1) | exact HB.out)⟩
      · rw [if_neg c4] at H
        exact absurd H (by simp)
    · rw [if_neg c3] at H
      have c3b0 : ((t131.size : Int) == 8) = false := beq_eq_false_iff_ne.mpr c3
      have c3b1 : ((t131.size : Int) != 8) = true := bne_iff_ne.mpr c3
      obtain rfl := Option.some.inj H
      go_enter Try.func13, Try.ntmps13
      go_wp2_with (first | ((with_reducible refine gate_dst (N := 9) rfl ?_); (try (refine gate_guard (by rfl) ?_; dsimp only)); refine Kd.R_lit k37 _ 37 ?hg (N := 9) ?hd (xs := ([(⟨1, (⟨0, 0, 0, 0, 0⟩ : S24), 0⟩ : S37), (⟨0, (⟨32, 1, 1, 0, (-1)⟩ : S24), 0⟩ : S37), (⟨0, (⟨40, 0, 1, 0, 0⟩ : S24), 1⟩ : S37)] : List (S37))) (inner := [.int .i64 1, .int .i64 0, .int .i64 0, .int .i64 0, .int .i64 0, .int .i32 0, .int .i64 0, .int .i64 0, .int .i64 32, .int .i64 1, .int .i64 1, .int .i64 0, .int .i32 (-1), .int .i64 0, .int .i64 0, .int .i64 40, .int .i64 0, .int .i64 1, .int .i64 0, .int .i32 0, .int .i64 1]) (ok := fun _ => True) (okp := fun _ => True) ?hr ?hp (fun _ hk => hk) trivial (Below.refl _ _) (Nat.le_refl _) (by simp) ?_; (case hd => rfl); (case hg => rfl); (case hr => first | (go_simp; done) | (go_simp; rfl)); (case hp => exact (Reps.c7 (show Kd.M k37 _ _ _ (⟨1, (⟨0, 0, 0, 0, 0⟩ : S24), 0⟩ : S37) [.int .i64 1, .int .i64 0, .int .i64 0, .int .i64 0, .int .i64 0, .int .i32 0, .int .i64 0] from (k37_mkM _ _ _ (⟨1, (⟨0, 0, 0, 0, 0⟩ : S24), 0⟩ : S37) )) (Reps.c7 (show Kd.M k37 _ _ _ (⟨0, (⟨32, 1, 1, 0, (-1)⟩ : S24), 0⟩ : S37) [.int .i64 0, .int .i64 32, .int .i64 1, .int .i64 1, .int .i64 0, .int .i32 (-1), .int .i64 0] from (k37_mkM _ _ _ (⟨0, (⟨32, 1, 1, 0, (-1)⟩ : S24), 0⟩ : S37) )) (Reps.c7 (show Kd.M k37 _ _ _ (⟨0, (⟨40, 0, 1, 0, 0⟩ : S24), 1⟩ : S37) [.int .i64 0, .int .i64 40, .int .i64 0, .int .i64 1, .int .i64 0, .int .i32 0, .int .i64 1] from (k37_mkM _ _ _ (⟨0, (⟨40, 0, 1, 0, 0⟩ : S24), 1⟩ : S37) )) (Reps.none _ _))))); intro v129 w10 ho11 hb hg_ hnew_; clear hg_ hnew_; (first | rw [← Ny128.out] at ho11 | (simp only [Int.reduceToNat] at ho11; rw [← Ny128.out] at ho11)); have n0_ := Aside0.mk (Kd.R_lower ho11 (below_size (by repeat (first | (with_reducible first | exact HB.out | apply below_alloc | apply pw_below_drewN | apply below_drew1) | exact HB.out)))); have n1_ := Aside0.mk (below_step (by repeat (first | (with_reducible first | exact HB.out | apply below_alloc | apply pw_below_drewN | apply below_drew1) | exact HB.out)) hb); clear HB; have HO130 := n0_; have HB := n1_; clear n0_ n1_; clear hb ho11; obtain ⟨Ao12, co12, eo12⟩ := Kd.R_slice HO130.out; subst eo12) | ((with_reducible refine gate_callee (f := 8) rfl ?_); refine goesL_ (some 10) rfl rfl Try.func8 (by kernel_rfl) rfl #[.slice Ao12 y128.length co12] rfl (by (try simp only [List.map_toArray, List.map_cons, List.map_nil]); first | done | rfl | (simp only [List.length_drop, List.length_take]; rfl)) ?_; (with_reducible refine (asm_Assemble.calls _ _ y128 t131 t132 _ ?side1 ?side2 A1.out).mono ?_); (case side1 => repeat (first | exact (Kd.R_reads' HO130.out).2.2 | (with_reducible refine Kd.C_alloc ?_ _) | (with_reducible refine Kd.C_drewN ?_ _) | (with_reducible refine Kd.C_drew ?_))); (case side2 => exact (Kd.R_reads' HO130.out).2.1); rintro e w13 ⟨rfl, hb⟩; refine ⟨_, rfl, ?_⟩; have n0_ := Aside0.mk (Kd.R_below (by (with_reducible repeat (first | apply Kd.R_alloc | apply Kd.R_drewN | apply Kd.R_drew)); exact HO130.out) hb); have n1_ := Aside0.mk (below_step (by repeat (first | (with_reducible first | exact HB.out | apply below_alloc | apply pw_below_drewN | apply below_drew1) | exact HB.out)) hb); clear HO130; clear HB; have HO130 := n0_; have HB := n1_; clear n0_ n1_; (try clear hb); (try clear hb2); (try clear hk); (try clear hi)))
      go_ret
      exact ⟨by first | rfl | (simp [errW_none, errW_some] <;> rfl) | (simp [*, errW_none, errW_some] <;> rfl), by repeat (first | (with_reducible first | exact HB.out | apply below_alloc | apply pw_below_drewN | apply below_drew1) | exact HB.out)⟩
  · rw [if_neg c2] at H
    have c2b0 : (t132 == 0) = false := beq_eq_false_iff_ne.mpr c2
    have c2b1 : (t132 != 0) = true := bne_iff_ne.mpr c2
    obtain rfl := Option.some.inj H
    go_enter Try.func13, Try.ntmps13
    go_wp2_with (first | ((with_reducible refine gate_dst (N := 9) rfl ?_); (try (refine gate_guard (by rfl) ?_; dsimp only)); refine Kd.R_lit k37 _ 37 ?hg (N := 9) ?hd (xs := ([(⟨1, (⟨0, 0, 0, 0, 0⟩ : S24), 0⟩ : S37), (⟨0, (⟨32, 1, 1, 0, (-1)⟩ : S24), 0⟩ : S37), (⟨0, (⟨40, 0, 1, 0, 0⟩ : S24), 1⟩ : S37)] : List (S37))) (inner := [.int .i64 1, .int .i64 0, .int .i64 0, .int .i64 0, .int .i64 0, .int .i32 0, .int .i64 0, .int .i64 0, .int .i64 32, .int .i64 1, .int .i64 1, .int .i64 0, .int .i32 (-1), .int .i64 0, .int .i64 0, .int .i64 40, .int .i64 0, .int .i64 1, .int .i64 0, .int .i32 0, .int .i64 1]) (ok := fun _ => True) (okp := fun _ => True) ?hr ?hp (fun _ hk => hk) trivial (Below.refl _ _) (Nat.le_refl _) (by simp) ?_; (case hd => rfl); (case hg => rfl); (case hr => first | (go_simp; done) | (go_simp; rfl)); (case hp => exact (Reps.c7 (show Kd.M k37 _ _ _ (⟨1, (⟨0, 0, 0, 0, 0⟩ : S24), 0⟩ : S37) [.int .i64 1, .int .i64 0, .int .i64 0, .int .i64 0, .int .i64 0, .int .i32 0, .int .i64 0] from (k37_mkM _ _ _ (⟨1, (⟨0, 0, 0, 0, 0⟩ : S24), 0⟩ : S37) )) (Reps.c7 (show Kd.M k37 _ _ _ (⟨0, (⟨32, 1, 1, 0, (-1)⟩ : S24), 0⟩ : S37) [.int .i64 0, .int .i64 32, .int .i64 1, .int .i64 1, .int .i64 0, .int .i32 (-1), .int .i64 0] from (k37_mkM _ _ _ (⟨0, (⟨32, 1, 1, 0, (-1)⟩ : S24), 0⟩ : S37) )) (Reps.c7 (show Kd.M k37 _ _ _ (⟨0, (⟨40, 0, 1, 0, 0⟩ : S24), 1⟩ : S37) [.int .i64 0, .int .i64 40, .int .i64 0, .int .i64 1, .int .i64 0, .int .i32 0, .int .i64 1] from (k37_mkM _ _ _ (⟨0, (⟨40, 0, 1, 0, 0⟩ : S24), 1⟩ : S37) )) (Reps.none _ _))))); intro v129 w14 ho15 hb hg_ hnew_; clear hg_ hnew_; (first | rw [← Ny128.out] at ho15 | (simp only [Int.reduceToNat] at ho15; rw [← Ny128.out] at ho15)); have n0_ := Aside0.mk (Kd.R_lower ho15 (below_size (by repeat (first | (with_reducible first | exact HB.out | apply below_alloc | apply pw_below_drewN | apply below_drew1) | exact HB.out)))); have n1_ := Aside0.mk (below_step (by repeat (first | (with_reducible first | exact HB.out | apply below_alloc | apply pw_below_drewN | apply below_drew1) | exact HB.out)) hb); clear HB; have HO130 := n0_; have HB := n1_; clear n0_ n1_; clear hb ho15; obtain ⟨Ao16, co16, eo16⟩ := Kd.R_slice HO130.out; subst eo16) | ((with_reducible refine gate_callee (f := 8) rfl ?_); refine goesL_ (some 10) rfl rfl Try.func8 (by kernel_rfl) rfl #[.slice Ao16 y128.length co16] rfl (by (try simp only [List.map_toArray, List.map_cons, List.map_nil]); first | done | rfl | (simp only [List.length_drop, List.length_take]; rfl)) ?_; (with_reducible refine (asm_Assemble.calls _ _ y128 t131 t132 _ ?side1 ?side2 A1.out).mono ?_); (case side1 => repeat (first | exact (Kd.R_reads' HO130.out).2.2 | (with_reducible refine Kd.C_alloc ?_ _) | (with_reducible refine Kd.C_drewN ?_ _) | (with_reducible refine Kd.C_drew ?_))); (case side2 => exact (Kd.R_reads' HO130.out).2.1); rintro e w17 ⟨rfl, hb⟩; refine ⟨_, rfl, ?_⟩; have n0_ := Aside0.mk (Kd.R_below (by (with_reducible repeat (first | apply Kd.R_alloc | apply Kd.R_drewN | apply Kd.R_drew)); exact HO130.out) hb); have n1_ := Aside0.mk (below_step (by repeat (first | (with_reducible first | exact HB.out | apply below_alloc | apply pw_below_drewN | apply below_drew1) | exact HB.out)) hb); clear HO130; clear HB; have HO130 := n0_; have HB := n1_; clear n0_ n1_; (try clear hb); (try clear hb2); (try clear hk); (try clear hi)))
    go_ret
    exact ⟨by first | rfl | (simp [errW_none, errW_some] <;> rfl) | (simp [*, errW_none, errW_some] <;> rfl), by repeat (first | (with_reducible first | exact HB.out | apply below_alloc | apply pw_below_drewN | apply below_drew1) | exact HB.out)⟩
end Go.Proofs.Ytdhmnjoceeolcaa.GF
end
section
namespace Go.Proofs.Ytdhmnjoceeolcaa.GF
open Go.RowKit Go.Proofs.YtdhmnjoceeolcaaW.PrintWords Go.Proofs.YtdhmnjoceeolcaaW.PrintLast Go.Proofs.YtdhmnjoceeolcaaW.PrintMore
attribute [local go_sem] max2_int min2_int max_two min_two max_three min_three max_four min_four   -- for this text's walks alone
set_option linter.unusedVariables false
set_option linter.unusedSimpArgs false
end Go.Proofs.Ytdhmnjoceeolcaa.GF
end
section
namespace Go.Proofs.Ytdhmnjoceeolcaa.Asm
open Go.RowKit Go.Proofs.YtdhmnjoceeolcaaW.PrintWords Go.Proofs.YtdhmnjoceeolcaaW.PrintLast Go.Proofs.YtdhmnjoceeolcaaW.PrintMore Go.Proofs.Ytdhmnjoceeolcaa.GF
set_option linter.unusedVariables false
set_option linter.unusedSimpArgs false
section
variable {b : Int} (hb : 0 ≤ b)
end
/-- The lines of the law's argument. -/
def linesV (h : List S37) (m : S24) (n : Int) (t : List S37) : List S37 := h ++ List.replicate (min n 262153).toNat ⟨0, m, 0⟩ ++ t
theorem lines_l0 (h t : List S37) (x0 x1 x2 x3 x4 x5 x6 n : Int) (hn : n ≤ 262153) (r : Nat) : ∀ (d : Nat) (xs : List S37) (i : Int), 0 ≤ i → (i + d = n ∨ (d = 0 ∧ n ≤ i)) → xs.length + d + t.length < 2513169434916 →
    cruciblelaw06_Lines.l0 (d + 1 + r) xs n i h x1 x2 x3 x4 x5 x6 t = some (xs ++ List.replicate d ⟨0, ⟨x1, x2, x3, x4, x5⟩, 0⟩ ++ t)
  | 0, xs, i, h0, hi, hl => by
    rw [show 0 + 1 + r = r + 1 by omega]
    unfold cruciblelaw06_Lines.l0
    rw [if_neg (by omega), if_pos (by omega)]
    simp
  | d + 1, xs, i, h0, hi, hl => by
    rw [show d + 1 + 1 + r = (d + 1 + r) + 1 by omega]
    unfold cruciblelaw06_Lines.l0
    rw [if_pos (by omega), if_pos (by omega), show wrap64 (i + 1) = i + 1 by unfold wrap64; omega]
    rw [lines_l0 h t x0 x1 x2 x3 x4 x5 x6 n hn r d _ (i + 1) (by omega) (by omega) (by rw [List.length_append]; simp; omega)]
    rw [List.replicate_succ]
    simp
theorem lines_some (h t : List S37) (x1 x2 x3 x4 x5 n : Int) (hl : h.length + t.length ≤ 38347922) : cruciblelaw06_Lines.f 262160 h x1 x2 x3 x4 x5 n t = some (linesV h ⟨x1, x2, x3, x4, x5⟩ n t) := by
  unfold cruciblelaw06_Lines.f linesV
  rw [if_pos (by simp; omega)]
  simp only [List.nil_append, Option.bind_some]
  by_cases hn : n > 262153
  · rw [if_pos hn, show min n 262153 = 262153 by omega, show (262160 : Nat) = 262159 + 1 by rfl]
    unfold cruciblelaw06_Lines.j0
    exact lines_l0 h t x1 x1 x2 x3 x4 x5 n 262153 (by omega) 5 262153 h 0 (by omega) (by omega) (by omega)
  · rw [if_neg hn, show min n 262153 = n by omega, show (262160 : Nat) = 262159 + 1 by rfl]
    unfold cruciblelaw06_Lines.j0
    have := lines_l0 h t x1 x1 x2 x3 x4 x5 n n (by omega) (262158 - n.toNat) n.toNat h 0 (by omega) (by omega) (by omega)
    rwa [show n.toNat + 1 + (262158 - n.toNat) = 262159 by omega] at this
theorem own_some (l : List S37) (h : l.length < 2513169434916) : cruciblelaw06_own.f l = some l := by
  unfold cruciblelaw06_own.f
  rw [if_pos (by simpa using h)]; rfl
theorem awake_some : cruciblelaw06_awake.f = some true := by kernel_rfl
end Go.Proofs.Ytdhmnjoceeolcaa.Asm
end
section
namespace Go.Proofs.Ytdhmnjoceeolcaa.Asm
open Go.RowKit Go.Proofs.YtdhmnjoceeolcaaW.PrintWords Go.Proofs.YtdhmnjoceeolcaaW.PrintLast Go.Proofs.YtdhmnjoceeolcaaW.PrintMore Go.Proofs.Ytdhmnjoceeolcaa.GF
set_option linter.unusedVariables false
set_option linter.unusedSimpArgs false
/-- A line's place is noted. -/
def Sn (l : List S37) (es : Mm) (j : Nat) : Prop := 0 < (l.getD j z37).f0 → get es (l.getD j z37).f0 = some (4 * atV l (settle l) j)
theorem Sn_up {l : List S37} (H : Okl l) {es : Mm} {i j : Nat} (hi : i < l.length) (hj : j < l.length) (h : Sn l es j) (hp : 0 < (l.getD i z37).f0) : Sn l (up es (l.getD i z37).f0 (4 * atV l (settle l) i)) j := fun hq => by
  rw [get_up]
  by_cases e : (l.getD j z37).f0 = (l.getD i z37).f0
  · obtain rfl := H.one i j hi hj hp e
    rw [if_pos rfl]
  · rw [if_neg e]; exact h hq
theorem Sn_own {l : List S37} {es : Mm} {i : Nat} : Sn l (up es (l.getD i z37).f0 (4 * atV l (settle l) i)) i := fun _ => by rw [get_up, if_pos rfl]
theorem place_at {l : List S37} (H : Okl l) (h0 : (asmV l).2 = 0) (i : Nat) (hi : i < l.length) (hp : 0 < (l.getD i z37).f0) : placeV l (l.getD i z37).f0 = (4 * atV l (settle l) i, 0) := by
  unfold placeV
  rw [if_pos h0, wh_at H (settle l) _ hp i hi rfl]
/-- What a line's code leads to. -/
theorem leads_at {l : List S37} (H : Okl l) (hn : 4 * atV l (settle l) l.length ≤ 1048576) (i : Nat) (hi : i < l.length) (h0 : ¬ 0 < (l.getD i z37).f0) (to_ : Int) (ht : (l.getD i z37).f2 ≠ 0 → to_ = whV l (settle l) (l.getD i z37).f2) (w : World) :
    Calls Try.prog 16 #[.string (strOfNums (outV l (settle l) l.length)), .int .i64 (atV l (settle l) i), agL (l.getD i z37), .int .i64 to_] w fun e w' => e = .returned (.tuple #[.int .i64 (szV (l.getD i z37) ((settle l).getD i false)), .bool true]) ∧ Below w.heap.size w w' := by
  have ha := atV_range l (settle l) i
  have hai := atV_mono l (settle l) l.length i (by omega)
  obtain ⟨n, hna⟩ : ∃ n : Nat, atV l (settle l) i = (n : Int) := Int.eq_ofNat_of_zero_le ha.1
  have hw := fun m y hy => out_word H hn i hi h0 m y hy n hna.symm
  have hz : (strOfNums (outV l (settle l) l.length)).size ≤ 100000000 := by
    have := out_len H hn l.length (Nat.le_refl _)
    have h2 : (strOfNums (outV l (settle l) l.length)).size = (outV l (settle l) l.length).length := by simp [strOfNums, ByteArray.size]
    omega
  have hl := line_words H hn i hi h0
  have hdv : dV l (settle l) i = whV l (settle l) (l.getD i z37).f2 - atV l (settle l) i - 1 := rfl
  rw [hna]
  have hwd : ∀ (m : Nat) y, (wordsV l (settle l) (l.getD i z37) i)[m]? = some y → encE y = 0 → Wd (strOfNums (outV l (settle l) l.length)) ((n : Int) + m) y := fun m y hy he w => by
    obtain ⟨h1, h2⟩ := hw m y hy
    have := word_calls (strOfNums (outV l (settle l) l.length)) (n + m) y he h1 hz h2 w
    rwa [show ((n + m : Nat) : Int) = (n : Int) + m by omega] at this
  have hwh : (l.getD i z37).f2 ≠ 0 → 0 ≤ whV l (settle l) (l.getD i z37).f2 ∧ whV l (settle l) (l.getD i z37).f2 ≤ 262144 := fun h => by
    have hl2 := (may_label _ (H.may i hi)).2.1
    obtain ⟨j, hj, e⟩ := H.goes i hi (by omega)
    have := wh_at H (settle l) _ (by omega) j hj e
    unfold whV
    rw [this]
    have h1 := atV_range l (settle l) j
    have h2 := atV_mono l (settle l) l.length j (by omega)
    simp only [Option.getD_some]
    omega
  rw [hna] at hdv
  generalize wordsV l (settle l) (l.getD i z37) i = ws at *
  generalize l.getD i z37 = x at *
  generalize strOfNums (outV l (settle l) l.length) = s at *
  rcases hl with ⟨e2, rfl, hs, he⟩ | ⟨e2, rfl, hs, he⟩ | ⟨e2, ho, rfl, hs, he, he2⟩
  · rw [hs]
    have h1 := hwd 0 _ rfl he
    rw [show (n : Int) + ((0 : Nat) : Int) = n by omega] at h1
    have := leads_plain s n x.f0 x.f1 to_ h1 w
    rw [← e2] at this
    exact this
  · rw [hs]
    have h1 := hwd 0 _ rfl he
    rw [show (n : Int) + ((0 : Nat) : Int) = n by omega] at h1
    have := hwh e2
    exact leads_short s n x to_ (dV l (settle l) i) e2 (by omega) (by omega) (by rw [ht e2]; omega) h1 w
  · rw [hs]
    have h1 := hwd 0 _ rfl he
    have h2 := hwd 1 _ rfl he2
    rw [show (n : Int) + ((0 : Nat) : Int) = n by omega] at h1
    have := hwh e2
    exact leads_long s n x to_ (dV l (settle l) i - 1) e2 ho (by omega) (by omega) (by rw [ht e2]; omega) h1 h2 w
abbrev fO (A B : Option Addr) (h t c e : Nat) (m : S24) (n : Int) : Obj := .cells #[.slice A h c, .int .i64 m.f0, .int .i64 m.f1, .int .i64 m.f2, .int .i64 m.f3, .int .i32 m.f4, .int .i64 n, .slice B t e] 26 (0, 0)
set_option maxHeartbeats 32000000 in
set_option maxRecDepth 100000 in
theorem leads_law {w : World} {A0 B0 : Option Addr} {h t : List S37} {c0 e0 : Nat} (m : S24) (n : Int) (hA : Kd.C k37 w A0 h.length h) (lA : h.length ≤ c0) (hB : Kd.C k37 w B0 t.length t) (lB : t.length ≤ e0) (gb : h.length + t.length ≤ 38347922) :
    Calls Try.prog 6 #[.agg #[.slice A0 h.length c0, .int .i64 m.f0, .int .i64 m.f1, .int .i64 m.f2, .int .i64 m.f3, .int .i32 m.f4, .int .i64 n, .slice B0 t.length e0]] w fun e w' => e = .returned (.bool true) ∧ Below w.heap.size w w' := by
  have hL := lines_some h t m.f0 m.f1 m.f2 m.f3 m.f4 n gb
  have haw := Aside0.mk awake_some
  have hll : (linesV h ⟨m.f0, m.f1, m.f2, m.f3, m.f4⟩ n t).length ≤ 40000000 := by unfold linesV; simp; omega
  have hlh : h.length + t.length ≤ (linesV h ⟨m.f0, m.f1, m.f2, m.f3, m.f4⟩ n t).length := by unfold linesV; simp only [List.length_append]; omega
  have hmid : Aside0 (∀ j, h.length ≤ j → j < (linesV h ⟨m.f0, m.f1, m.f2, m.f3, m.f4⟩ n t).length - t.length → ((linesV h ⟨m.f0, m.f1, m.f2, m.f3, m.f4⟩ n t).getD j z37).f0 = 0) := ⟨fun j h1 h2 => by
    unfold linesV at h2 ⊢
    simp only [List.length_append, List.length_replicate] at h2
    rw [List.getD_eq_getElem?_getD, List.getElem?_append_left (by simp; omega), List.getElem?_append_right (by omega), List.getElem?_replicate]
    split <;> rfl⟩
  generalize linesV h ⟨m.f0, m.f1, m.f2, m.f3, m.f4⟩ n t = l at *
  have hLn := fun w' (hb : Below w.heap.size w w') => cruciblelaw06_Lines.calls 262160 A0 c0 h m.f0 m.f1 m.f2 m.f3 m.f4 n B0 e0 t l w' (Kd.C_below hA hb) lA (Kd.C_below hB hb) lB hL
  replace hLn := Aside0.mk hLn
  have how := Aside0.mk (own_some l (by omega))
  have F0 := Aside0.mk (blk_new w (fO A0 B0 h.length t.length c0 e0 m n))
  have L0 : Aside0 (Below w.heap.size w (w.alloc (fO A0 B0 h.length t.length c0 e0 m n))) := ⟨below_alloc (Below.refl _ _) _⟩
  clear hA hB hL
  go_enter Try.func6, Try.ntmps6
  go_upto_region 1 with (fail)
  generalize w.alloc (fO A0 B0 h.length t.length c0 e0 m n) = W0 at *
  have v0 := (blk_cell F0.out 0).trans (show _ = some (.slice A0 h.length c0) from rfl)
  have v1 := (blk_cell F0.out 1).trans (show _ = some (.int .i64 m.f0) from rfl)
  have v2 := (blk_cell F0.out 2).trans (show _ = some (.int .i64 m.f1) from rfl)
  have v3 := (blk_cell F0.out 3).trans (show _ = some (.int .i64 m.f2) from rfl)
  have v4 := (blk_cell F0.out 4).trans (show _ = some (.int .i64 m.f3) from rfl)
  have v5 := (blk_cell F0.out 5).trans (show _ = some (.int .i32 m.f4) from rfl)
  have v6 := (blk_cell F0.out 6).trans (show _ = some (.int .i64 n) from rfl)
  have v7 := (blk_cell F0.out 7).trans (show _ = some (.slice B0 t.length e0) from rfl)
  go_upto_region 2 with (go_at_call 7; (with_reducible refine (hLn.out _ L0.out).mono ?_); rintro e w1 ⟨v, rfl, hR, hb1⟩; replace hR := Aside0.mk hR; replace F0 := Aside0.mk (blk_below F0.out hb1); replace L0 := Aside0.mk (below_step L0.out hb1); obtain ⟨Al, cl, rfl⟩ := Kd.R_slice hR.out)
  have hC := Aside0.mk (Kd.R_reads' hR.out).2.2
  have hcl := Aside0.mk (Kd.R_reads' hR.out).2.1
  have hw1 : Aside0 (w.heap.size ≤ w1.heap.size) := ⟨below_size L0.out⟩
  clear hR hb1 v0 v1 v2 v3 v4 v5 v6 v7 hLn
  have hown := fun W (hb : Below w1.heap.size w1 W) => cruciblelaw06_own.calls Al cl l l W (Kd.C_below hC.out hb) hcl.out how.out
  replace hown := Aside0.mk hown
  have hav := asmV_ok l
  go_upto_region 3 with (first | (go_at_call 9; (with_reducible refine (hown.out _ (Below.refl _ _)).mono ?_); rintro e w2 ⟨vo, rfl, hRo, hb2⟩; obtain ⟨Ao, co, rfl⟩ := Kd.R_slice hRo; have hCo := (Kd.R_reads' hRo).2.2; clear hRo; replace hb2 := Aside0.mk hb2; replace hCo := Aside0.mk hCo) | (go_at_call 8; (with_reducible refine (assemble_calls (c := co) hCo).mono ?_); rintro e w3 ⟨rfl, hb3⟩; replace hb3 := Aside0.mk (below_step hb2.out hb3)))
  replace F0 := Aside0.mk (blk_below F0.out hb3.out)
  replace L0 := Aside0.mk (below_step L0.out hb3.out)
  clear hCo hb2
  have has : asmV l = if checkV l = 0 then (if 1048576 < 4 * atV l (settle l) l.length then (⟨#[]⟩, 3) else (strOfNums (outV l (settle l) l.length), 0)) else (⟨#[]⟩, checkV l) := rfl
  by_cases hcd : (asmV l).2 = 0
  · obtain ⟨hck, hn⟩ := hav hcd
    have H := Aside0.mk (okl l hck)
    have hst : (asmV l).1 = strOfNums (outV l (settle l) l.length) := by rw [has, if_pos hck, if_neg (by omega)]
    have hpl := fun i hi hp => Aside0.mk (place_at H.out hcd i hi hp)
    have hld := fun i hi h0 to_ ht w => leads_at H.out hn i hi h0 to_ ht w
    have hsz : ((strOfNums (outV l (settle l) l.length)).size : Int) = 4 * atV l (settle l) l.length := by
      have := out_len H.out hn l.length (Nat.le_refl _)
      have h2 : (strOfNums (outV l (settle l) l.length)).size = (outV l (settle l) l.length).length := by simp [strOfNums, ByteArray.size]
      omega
    rw [hst]
    have hc0 : (asmV l).2 = 0 := hcd
    rw [hcd]
    clear hav has hst
    generalize strOfNums (outV l (settle l) l.length) = s at *
    replace hcd := Aside0.mk hcd
    replace hck := Aside0.mk hck
    replace hn := Aside0.mk hn
    replace hpl := Aside0.mk hpl
    replace hld := Aside0.mk hld
    clear hc0
    have hmm := @run_makeMap Try.prog
    have M0 := Aside0.mk (Mp.new w3)
    replace F0 := Aside0.mk (blk_alloc F0.out (.map #[] 0))
    replace L0 := Aside0.mk (below_alloc L0.out (.map #[] 0))
    have J0 : Aside0 (Below w1.heap.size w1 (w3.alloc (.map #[] 0))) := ⟨below_alloc hb3.out _⟩
    have hmb : Aside0 (w1.heap.size ≤ w3.heap.size) := ⟨below_size hb3.out⟩
    go_upto_region 6 with (fail)
    generalize w3.alloc (.map #[] 0) = W4 at *
    generalize w3.heap.size = mb at *
    clear hmm hb3
    go_wp2_with fail
    go_loopw [7] (fun u7 wr => ∃ (i : Nat) (es : Mm), i ≤ h.length ∧ u7 = .int .i64 i ∧ Aside0 (Below w.heap.size w wr) ∧ Aside0 (Below w1.heap.size w1 wr) ∧ Aside0 (wr.heap[w.heap.size]? = some (fO A0 B0 h.length t.length c0 e0 m n)) ∧ Aside0 (Mp wr mb es) ∧ Aside0 (∀ j, j < i → Sn l es j)) (fun u _ => h.length - (intOf u).toNat)
    case atStart => exact ⟨0, [], Nat.zero_le _, rfl, L0, J0, F0, M0, ⟨fun j hj => by omega⟩⟩
    case round =>
      clear L0 J0 F0 M0
      obtain ⟨i, es, hi, rfl, L0, J0, F0, M0, hS⟩ := hrel
      have v0 := (blk_cell F0.out 0).trans (show _ = some (.slice A0 h.length c0) from rfl)
      have hil : (i : Int) ≤ (l.length : Int) := by omega
      by_cases hlt : i < h.length
      · have d1 : decide ((i : Int) < (l.length : Int)) = true := decide_eq_true (by omega)
        have d2 : decide ((i : Int) < (h.length : Int)) = true := decide_eq_true (by omega)
        have q0 : (0 : Int) ≤ (i : Int) := by omega
        have q1 : (i : Int) < (l.length : Int) := by omega
        obtain ⟨ad, ea, a0, a1, a2, a3, a4, a5, a6⟩ := at_T37 (Kd.C_below hC.out J0.out) (i : Int) (by omega) (by omega)
        subst ea
        simp only [Int.toNat_natCast, rd_L] at a0
        clear a1 a2 a3 a4 a5 a6
        have hpx := hpl.out i (by omega)
        have hup := fun hp j hj hs => Sn_up H.out (es := es) (i := i) (j := j) (by omega) hj hs hp
        have hon := Sn_own (l := l) (es := es) (i := i)
        have hno : ¬ 0 < (l.getD i z37).f0 → Sn l es i := fun h1 h2 => absurd h2 h1
        generalize l.getD i z37 = x at *
        by_cases kp : 0 < x.f0
        · replace hpx := hpx kp
          replace hup := Aside0.mk (hup kp)
          replace hon := Aside0.mk hon
          clear hno
          replace kp := kp
          go_upto_region 10 with (fail)
          replace kp := Aside0.mk kp
          refine start_ (n := 18) (S := fun w' => w'.cell? (ad.add (i * 7)) = some (.int .i64 x.f0)) (ds := [17]) #[false, false, false, false, false, false, false, false, false, false, false, false, false, false, false, false, false, false] (by kernel_rfl) rfl rfl (a0) (fun hHeld => ?_)
          replace L0 : Aside0 (Below w.heap.size w wr.drew) := ⟨below_drew L0.out⟩
          replace J0 : Aside0 (Below w1.heap.size w1 wr.drew) := ⟨below_drew J0.out⟩
          replace F0 : Aside0 (wr.drew.heap[w.heap.size]? = some (fO A0 B0 h.length t.length c0 e0 m n)) := ⟨F0.out⟩
          replace M0 : Aside0 (Mp wr.drew mb es) := ⟨M0.out.keep rfl⟩
          clear a0
          generalize wr.drew = W5 at *
          refine pure_ (i := 0) (N := some 49) (v := ?_) (a' := ?_) #[true, false, false, false, false, false, false, false, false, false, false, false, false, false, false, false, false, false] rfl rfl (by kernel_rfl) (fun _ _ _ h => h) (Or.inl ⟨by rfl, ?_⟩) ?_ ?_
          rotate_left
          · intro w'
            go_simp
            try with_reducible rfl
          rotate_left
          · simp only [Act.put, List.setIfInBounds_toArray, List.set_cons_zero, List.set_cons_succ]
            rfl
          refine pure_ (i := 1) (N := some 50) (v := ?_) (a' := ?_) #[true, true, false, false, false, false, false, false, false, false, false, false, false, false, false, false, false, false] rfl rfl (by kernel_rfl) (fun _ _ _ h => h) (Or.inl ⟨by rfl, ?_⟩) ?_ ?_
          rotate_left
          · intro w'
            go_simp
            try with_reducible rfl
          rotate_left
          · simp only [Act.put, List.setIfInBounds_toArray, List.set_cons_zero, List.set_cons_succ]
            rfl
          refine pure_ (i := 2) (N := some 51) (v := ?_) (a' := ?_) #[true, true, true, false, false, false, false, false, false, false, false, false, false, false, false, false, false, false] rfl rfl (by kernel_rfl) (fun _ _ _ h => h) (Or.inl ⟨by rfl, ?_⟩) ?_ ?_
          rotate_left
          · intro w'
            go_simp
            try with_reducible rfl
          rotate_left
          · simp only [Act.put, List.setIfInBounds_toArray, List.set_cons_zero, List.set_cons_succ]
            rfl
          refine pure_ (i := 3) (N := some 52) (v := ?_) (a' := ?_) #[true, true, true, true, false, false, false, false, false, false, false, false, false, false, false, false, false, false] rfl rfl (by kernel_rfl) (fun _ _ _ h => h) (Or.inl ⟨by rfl, ?_⟩) ?_ ?_
          rotate_left
          · intro w'
            go_simp
            try with_reducible rfl
          rotate_left
          · simp only [Act.put, List.setIfInBounds_toArray, List.set_cons_zero, List.set_cons_succ]
            rfl
          refine pure_ (i := 4) (N := some 53) (v := ?_) (a' := ?_) #[true, true, true, true, true, false, false, false, false, false, false, false, false, false, false, false, false, false] rfl rfl (by kernel_rfl) (fun _ _ _ h => h) (Or.inl ⟨by rfl, ?_⟩) ?_ ?_
          rotate_left
          · intro w'
            go_simp
            try with_reducible rfl
          rotate_left
          · simp only [Act.put, List.setIfInBounds_toArray, List.set_cons_zero, List.set_cons_succ]
            rfl
          refine pure_ (i := 6) (N := some 55) (v := ?_) (a' := ?_) #[true, true, true, true, true, false, true, false, false, false, false, false, false, false, false, false, false, false] rfl rfl (by kernel_rfl) (fun _ _ _ h => h) (Or.inl ⟨by rfl, ?_⟩) ?_ ?_
          rotate_left
          · intro w'
            go_simp
            try with_reducible rfl
          rotate_left
          · simp only [Act.put, List.setIfInBounds_toArray, List.set_cons_zero, List.set_cons_succ]
            rfl
          refine pure_ (i := 8) (N := some 57) (v := ?_) (a' := ?_) #[true, true, true, true, true, false, true, false, true, false, false, false, false, false, false, false, false, false] rfl rfl (by kernel_rfl) (fun _ _ _ h => h) (Or.inl ⟨by rfl, ?_⟩) ?_ ?_
          rotate_left
          · intro w'
            go_simp
            try with_reducible rfl
          rotate_left
          · simp only [Act.put, List.setIfInBounds_toArray, List.set_cons_zero, List.set_cons_succ]
            rfl
          refine pure_ (i := 9) (N := some 58) (v := ?_) (a' := ?_) #[true, true, true, true, true, false, true, false, true, true, false, false, false, false, false, false, false, false] rfl rfl (by kernel_rfl) (fun _ _ _ h => h) (Or.inl ⟨by rfl, ?_⟩) ?_ ?_
          rotate_left
          · intro w'
            go_simp
            try with_reducible rfl
          rotate_left
          · simp only [Act.put, List.setIfInBounds_toArray, List.set_cons_zero, List.set_cons_succ]
            rfl
          refine pure_ (i := 10) (N := some 59) (v := ?_) (a' := ?_) #[true, true, true, true, true, false, true, false, true, true, true, false, false, false, false, false, false, false] rfl rfl (by kernel_rfl) (fun _ _ _ h => h) (Or.inl ⟨by rfl, ?_⟩) ?_ ?_
          rotate_left
          · intro w'
            go_simp
            try with_reducible rfl
          rotate_left
          · simp only [Act.put, List.setIfInBounds_toArray, List.set_cons_zero, List.set_cons_succ]
            rfl
          refine pure_ (i := 11) (N := some 60) (v := ?_) (a' := ?_) #[true, true, true, true, true, false, true, false, true, true, true, true, false, false, false, false, false, false] rfl rfl (by kernel_rfl) (fun _ _ _ h => h) (Or.inl ⟨by rfl, ?_⟩) ?_ ?_
          rotate_left
          · intro w'
            go_simp
            try with_reducible rfl
          rotate_left
          · simp only [Act.put, List.setIfInBounds_toArray, List.set_cons_zero, List.set_cons_succ]
            rfl
          refine take_ (i := 5) (N := some 54) (v := ?_) (a' := ?_) #[true, true, true, true, true, true, true, false, true, true, true, true, false, false, false, false, false, false] rfl rfl (by kernel_rfl) (fun _ _ _ h => h) (Or.inl ⟨by rfl, ?_⟩) hHeld ?_ ?_
          rotate_left
          · intro w' s0
            go_simp
            try with_reducible rfl
          rotate_left
          · simp only [Act.put, List.setIfInBounds_toArray, List.set_cons_zero, List.set_cons_succ]
            rfl
          refine take_ (i := 12) (N := some 61) (v := ?_) (a' := ?_) #[true, true, true, true, true, true, true, false, true, true, true, true, true, false, false, false, false, false] rfl rfl (by kernel_rfl) (fun _ _ _ h => h) (Or.inl ⟨by rfl, ?_⟩) hHeld ?_ ?_
          rotate_left
          · intro w' s0
            go_simp
            try with_reducible rfl
          rotate_left
          · simp only [Act.put, List.setIfInBounds_toArray, List.set_cons_zero, List.set_cons_succ]
            rfl
          refine one_ (i := 7) (N := some 56) #[true, true, true, true, true, true, true, true, true, true, true, true, true, false, false, false, false, false] rfl rfl (by kernel_rfl) (by decide) (fun K hK => ?_)
          refine goes_ Try.func9 (by kernel_rfl) rfl #[.slice (some ad) l.length cl] (by rfl) rfl rfl (by (try simp only [List.map_toArray, List.map_cons, List.map_nil]); first | done | rfl) ?_
          with_reducible refine (hown.out _ J0.out).mono ?_
          rintro e w' ⟨vo, rfl, hRo, hb⟩
          obtain ⟨Ao, co, rfl⟩ := Kd.R_slice hRo
          have hCo := Aside0.mk (Kd.R_reads' hRo).2.2
          clear hRo
          refine ⟨_, rfl, ?_⟩
          have hHeld2 := (hb.cell (World.block_lt_of_cell? _ _ hHeld)).trans hHeld
          replace L0 := Aside0.mk (below_step L0.out hb)
          replace J0 := Aside0.mk (below_step J0.out hb)
          replace F0 := Aside0.mk (blk_below F0.out hb)
          replace M0 := Aside0.mk (M0.out.below hb)
          refine hK.out _ _ hHeld2 (fun hHeld => ?_)
          clear hK K hb hHeld2
          refine norm_ (a' := ?_) ?_ ?_
          rotate_left
          · simp only [Act.put, List.setIfInBounds_toArray, List.set_cons_zero, List.set_cons_succ]
            rfl
          refine one_ (i := 13) (N := some 62) #[true, true, true, true, true, true, true, true, true, true, true, true, true, true, false, false, false, false] rfl rfl (by kernel_rfl) (by decide) (fun K hK => ?_)
          refine goes_ Try.func14 (by kernel_rfl) rfl #[.slice Ao l.length co, .int .i64 x.f0] (by rfl) rfl rfl (by (try simp only [List.map_toArray, List.map_cons, List.map_nil]); first | done | rfl) ?_
          with_reducible refine (Place_calls (c := co) x.f0 hCo).mono ?_
          rw [hpx.out]
          rintro e w' ⟨rfl, hb⟩
          refine ⟨_, rfl, ?_⟩
          have hHeld2 := (hb.cell (World.block_lt_of_cell? _ _ hHeld)).trans hHeld
          replace L0 := Aside0.mk (below_step L0.out hb)
          replace J0 := Aside0.mk (below_step J0.out hb)
          replace F0 := Aside0.mk (blk_below F0.out hb)
          replace M0 := Aside0.mk (M0.out.below hb)
          refine hK.out _ _ hHeld2 (fun hHeld => ?_)
          clear hK K hb hHeld2
          refine norm_ (a' := ?_) ?_ ?_
          rotate_left
          · simp only [Act.put, List.setIfInBounds_toArray, List.set_cons_zero, List.set_cons_succ]
            rfl
          refine pure_ (i := 14) (N := some 48) (v := ?_) (a' := ?_) #[true, true, true, true, true, true, true, true, true, true, true, true, true, true, true, false, false, false] rfl rfl (by kernel_rfl) (fun _ _ _ h => h) (Or.inl ⟨by rfl, ?_⟩) ?_ ?_
          rotate_left
          · intro w'
            go_simp
            try with_reducible rfl
          rotate_left
          · simp only [Act.put, List.setIfInBounds_toArray, List.set_cons_zero, List.set_cons_succ]
            rfl
          refine pure_ (i := 15) (N := some 63) (v := ?_) (a' := ?_) #[true, true, true, true, true, true, true, true, true, true, true, true, true, true, true, true, false, false] rfl rfl (by kernel_rfl) (fun _ _ _ h => h) (Or.inl ⟨by rfl, ?_⟩) ?_ ?_
          rotate_left
          · intro w'
            go_simp
            try with_reducible rfl
          rotate_left
          · simp only [Act.put, List.setIfInBounds_toArray, List.set_cons_zero, List.set_cons_succ]
            rfl
          refine pure_ (i := 16) (N := some 64) (v := ?_) (a' := ?_) #[true, true, true, true, true, true, true, true, true, true, true, true, true, true, true, true, true, false] rfl rfl (by kernel_rfl) (fun _ _ _ h => h) (Or.inl ⟨by rfl, ?_⟩) ?_ ?_
          rotate_left
          · intro w'
            go_simp
            try with_reducible rfl
          rotate_left
          · simp only [Act.put, List.setIfInBounds_toArray, List.set_cons_zero, List.set_cons_succ]
            rfl
          refine last_ (i := 17) (N := none) #[true, true, true, true, true, true, true, true, true, true, true, true, true, true, true, true, true, true] rfl rfl (by kernel_rfl) (by decide) (fun K hK => ?_)
          have hpt := put M0.out x.f0 (4 * atV l (settle l) i)
          refine skip_ (w1 := putM w' mb x.f0 (4 * atV l (settle l) i)) (by rfl) rfl ?_ ?_
          · go_simp
          refine hK.out _ _ ?_
          clear hK K hpt
          refine done_ (by kernel_rfl) ?_
          have L1 : Aside0 (Below w.heap.size w (putM w' mb x.f0 (4 * atV l (settle l) i))) := ⟨put_below L0.out M0.out (Nat.le_trans (below_size (Below.refl _ _)) (by have := below_size L0.out; have := hmb.out; have := hw1.out; omega)) x.f0 _⟩
          have J1 : Aside0 (Below w1.heap.size w1 (putM w' mb x.f0 (4 * atV l (settle l) i))) := ⟨put_below J0.out M0.out hmb.out x.f0 _⟩
          have F1 : Aside0 ((putM w' mb x.f0 (4 * atV l (settle l) i)).heap[w.heap.size]? = some (fO A0 B0 h.length t.length c0 e0 m n)) := ⟨(put_block M0.out x.f0 _ _ (M0.out.cells F0.out)).trans F0.out⟩
          have M1 := Aside0.mk (put_mp M0.out x.f0 (4 * atV l (settle l) i))
          have hS1 : Aside0 (∀ j, j < i + 1 → Sn l (up es x.f0 (4 * atV l (settle l) i)) j) := ⟨fun j hj => by
            by_cases e : j = i
            · subst e; exact hon.out
            · exact hup.out j (by omega) (hS.out j (by omega))⟩
          clear hS hup hon hpx
          go_wp2_with fail
          go_roundw
          case rel => exact ⟨i + 1, _, by omega, by go_num, L1, J1, F1, M1, hS1⟩
          case measure => simp [intOf]; omega
        · have hS1 : Aside0 (∀ j, j < i + 1 → Sn l es j) := ⟨fun j hj => by
            by_cases e : j = i
            · subst e; exact hno kp
            · exact hS.out j (by omega)⟩
          clear hS hup hon hpx hno
          go_wp2_with fail
          go_roundw
          case rel => exact ⟨i + 1, _, by omega, by go_num, L0, J0, F0, M0, hS1⟩
          case measure => simp [intOf]; omega
      · obtain rfl : i = h.length := by omega
        have d2 : decide ((h.length : Int) < (h.length : Int)) = false := decide_eq_false (by omega)
        have hS0 : Aside0 (∀ j, j < h.length ∨ (l.length - t.length ≤ j ∧ j < l.length - t.length) → Sn l es j) := ⟨fun j hj => hS.out j (by omega)⟩
        clear hS
        have v7 := (blk_cell F0.out 7).trans (show _ = some (.slice B0 t.length e0) from rfl)
        have hsb : IntKind.i64.wrap ((l.length : Int) - (t.length : Int)) = ((l.length - t.length : Nat) : Int) := by rw [IntWalk.i64_in _ (by omega)]; omega
        have hq1 : l.length - t.length ≤ l.length := by omega
        have hq2 : h.length ≤ l.length - t.length := by omega
        generalize l.length - t.length = qb at *
        by_cases dl : h.length < l.length
        · have d1 : decide ((h.length : Int) < (l.length : Int)) = true := decide_eq_true (by omega)
          go_wp2_with fail
          go_loopw [8] (fun u8 wr => ∃ (i : Nat) (es : Mm), qb ≤ i ∧ i ≤ l.length ∧ u8 = .int .i64 i ∧ Aside0 (Below w.heap.size w wr) ∧ Aside0 (Below w1.heap.size w1 wr) ∧ Aside0 (wr.heap[w.heap.size]? = some (fO A0 B0 h.length t.length c0 e0 m n)) ∧ Aside0 (Mp wr mb es) ∧ Aside0 (∀ j, j < h.length ∨ (qb ≤ j ∧ j < i) → Sn l es j)) (fun u _ => l.length - (intOf u).toNat)
          case atStart => exact ⟨qb, es, Nat.le_refl _, by omega, by first | rfl | rw [hsb], L0, J0, F0, M0, hS0⟩
          case round =>
            clear L0 J0 F0 M0 hS0 v0 v7 d1 d2 dl
            obtain ⟨i, es, hi1, hi2, rfl, L0, J0, F0, M0, hS⟩ := hrel
            by_cases hlt : i < l.length
            · skip
              have q0 : (0 : Int) ≤ (i : Int) := by omega
              have q1 : (i : Int) < (l.length : Int) := by omega
              obtain ⟨ad, ea, a0, a1, a2, a3, a4, a5, a6⟩ := at_T37 (Kd.C_below hC.out J0.out) (i : Int) (by omega) (by omega)
              subst ea
              simp only [Int.toNat_natCast, rd_L] at a0
              clear a1 a2 a3 a4 a5 a6
              have hpx := hpl.out i (by omega)
              have hup := fun hp j hj hs => Sn_up H.out (es := es) (i := i) (j := j) (by omega) hj hs hp
              have hon := Sn_own (l := l) (es := es) (i := i)
              have hno : ¬ 0 < (l.getD i z37).f0 → Sn l es i := fun h1 h2 => absurd h2 h1
              generalize l.getD i z37 = x at *
              by_cases kp : 0 < x.f0
              · replace hpx := hpx kp
                replace hup := Aside0.mk (hup kp)
                replace hon := Aside0.mk hon
                clear hno
                replace kp := kp
                go_upto_region 15 with (fail)
                replace kp := Aside0.mk kp
                refine start_ (n := 18) (S := fun w' => w'.cell? (ad.add (i * 7)) = some (.int .i64 x.f0)) (ds := [17]) #[false, false, false, false, false, false, false, false, false, false, false, false, false, false, false, false, false, false] (by kernel_rfl) rfl rfl (a0) (fun hHeld => ?_)
                replace L0 : Aside0 (Below w.heap.size w wr.drew) := ⟨below_drew L0.out⟩
                replace J0 : Aside0 (Below w1.heap.size w1 wr.drew) := ⟨below_drew J0.out⟩
                replace F0 : Aside0 (wr.drew.heap[w.heap.size]? = some (fO A0 B0 h.length t.length c0 e0 m n)) := ⟨F0.out⟩
                replace M0 : Aside0 (Mp wr.drew mb es) := ⟨M0.out.keep rfl⟩
                clear a0
                generalize wr.drew = W5 at *
                refine pure_ (i := 0) (N := some 84) (v := ?_) (a' := ?_) #[true, false, false, false, false, false, false, false, false, false, false, false, false, false, false, false, false, false] rfl rfl (by kernel_rfl) (fun _ _ _ h => h) (Or.inl ⟨by rfl, ?_⟩) ?_ ?_
                rotate_left
                · intro w'
                  go_simp
                  try with_reducible rfl
                rotate_left
                · simp only [Act.put, List.setIfInBounds_toArray, List.set_cons_zero, List.set_cons_succ]
                  rfl
                refine pure_ (i := 1) (N := some 85) (v := ?_) (a' := ?_) #[true, true, false, false, false, false, false, false, false, false, false, false, false, false, false, false, false, false] rfl rfl (by kernel_rfl) (fun _ _ _ h => h) (Or.inl ⟨by rfl, ?_⟩) ?_ ?_
                rotate_left
                · intro w'
                  go_simp
                  try with_reducible rfl
                rotate_left
                · simp only [Act.put, List.setIfInBounds_toArray, List.set_cons_zero, List.set_cons_succ]
                  rfl
                refine pure_ (i := 2) (N := some 86) (v := ?_) (a' := ?_) #[true, true, true, false, false, false, false, false, false, false, false, false, false, false, false, false, false, false] rfl rfl (by kernel_rfl) (fun _ _ _ h => h) (Or.inl ⟨by rfl, ?_⟩) ?_ ?_
                rotate_left
                · intro w'
                  go_simp
                  try with_reducible rfl
                rotate_left
                · simp only [Act.put, List.setIfInBounds_toArray, List.set_cons_zero, List.set_cons_succ]
                  rfl
                refine pure_ (i := 3) (N := some 87) (v := ?_) (a' := ?_) #[true, true, true, true, false, false, false, false, false, false, false, false, false, false, false, false, false, false] rfl rfl (by kernel_rfl) (fun _ _ _ h => h) (Or.inl ⟨by rfl, ?_⟩) ?_ ?_
                rotate_left
                · intro w'
                  go_simp
                  try with_reducible rfl
                rotate_left
                · simp only [Act.put, List.setIfInBounds_toArray, List.set_cons_zero, List.set_cons_succ]
                  rfl
                refine pure_ (i := 4) (N := some 88) (v := ?_) (a' := ?_) #[true, true, true, true, true, false, false, false, false, false, false, false, false, false, false, false, false, false] rfl rfl (by kernel_rfl) (fun _ _ _ h => h) (Or.inl ⟨by rfl, ?_⟩) ?_ ?_
                rotate_left
                · intro w'
                  go_simp
                  try with_reducible rfl
                rotate_left
                · simp only [Act.put, List.setIfInBounds_toArray, List.set_cons_zero, List.set_cons_succ]
                  rfl
                refine pure_ (i := 6) (N := some 90) (v := ?_) (a' := ?_) #[true, true, true, true, true, false, true, false, false, false, false, false, false, false, false, false, false, false] rfl rfl (by kernel_rfl) (fun _ _ _ h => h) (Or.inl ⟨by rfl, ?_⟩) ?_ ?_
                rotate_left
                · intro w'
                  go_simp
                  try with_reducible rfl
                rotate_left
                · simp only [Act.put, List.setIfInBounds_toArray, List.set_cons_zero, List.set_cons_succ]
                  rfl
                refine pure_ (i := 8) (N := some 92) (v := ?_) (a' := ?_) #[true, true, true, true, true, false, true, false, true, false, false, false, false, false, false, false, false, false] rfl rfl (by kernel_rfl) (fun _ _ _ h => h) (Or.inl ⟨by rfl, ?_⟩) ?_ ?_
                rotate_left
                · intro w'
                  go_simp
                  try with_reducible rfl
                rotate_left
                · simp only [Act.put, List.setIfInBounds_toArray, List.set_cons_zero, List.set_cons_succ]
                  rfl
                refine pure_ (i := 9) (N := some 93) (v := ?_) (a' := ?_) #[true, true, true, true, true, false, true, false, true, true, false, false, false, false, false, false, false, false] rfl rfl (by kernel_rfl) (fun _ _ _ h => h) (Or.inl ⟨by rfl, ?_⟩) ?_ ?_
                rotate_left
                · intro w'
                  go_simp
                  try with_reducible rfl
                rotate_left
                · simp only [Act.put, List.setIfInBounds_toArray, List.set_cons_zero, List.set_cons_succ]
                  rfl
                refine pure_ (i := 10) (N := some 94) (v := ?_) (a' := ?_) #[true, true, true, true, true, false, true, false, true, true, true, false, false, false, false, false, false, false] rfl rfl (by kernel_rfl) (fun _ _ _ h => h) (Or.inl ⟨by rfl, ?_⟩) ?_ ?_
                rotate_left
                · intro w'
                  go_simp
                  try with_reducible rfl
                rotate_left
                · simp only [Act.put, List.setIfInBounds_toArray, List.set_cons_zero, List.set_cons_succ]
                  rfl
                refine pure_ (i := 11) (N := some 95) (v := ?_) (a' := ?_) #[true, true, true, true, true, false, true, false, true, true, true, true, false, false, false, false, false, false] rfl rfl (by kernel_rfl) (fun _ _ _ h => h) (Or.inl ⟨by rfl, ?_⟩) ?_ ?_
                rotate_left
                · intro w'
                  go_simp
                  try with_reducible rfl
                rotate_left
                · simp only [Act.put, List.setIfInBounds_toArray, List.set_cons_zero, List.set_cons_succ]
                  rfl
                refine take_ (i := 5) (N := some 89) (v := ?_) (a' := ?_) #[true, true, true, true, true, true, true, false, true, true, true, true, false, false, false, false, false, false] rfl rfl (by kernel_rfl) (fun _ _ _ h => h) (Or.inl ⟨by rfl, ?_⟩) hHeld ?_ ?_
                rotate_left
                · intro w' s0
                  go_simp
                  try with_reducible rfl
                rotate_left
                · simp only [Act.put, List.setIfInBounds_toArray, List.set_cons_zero, List.set_cons_succ]
                  rfl
                refine take_ (i := 12) (N := some 96) (v := ?_) (a' := ?_) #[true, true, true, true, true, true, true, false, true, true, true, true, true, false, false, false, false, false] rfl rfl (by kernel_rfl) (fun _ _ _ h => h) (Or.inl ⟨by rfl, ?_⟩) hHeld ?_ ?_
                rotate_left
                · intro w' s0
                  go_simp
                  try with_reducible rfl
                rotate_left
                · simp only [Act.put, List.setIfInBounds_toArray, List.set_cons_zero, List.set_cons_succ]
                  rfl
                refine one_ (i := 7) (N := some 91) #[true, true, true, true, true, true, true, true, true, true, true, true, true, false, false, false, false, false] rfl rfl (by kernel_rfl) (by decide) (fun K hK => ?_)
                refine goes_ Try.func9 (by kernel_rfl) rfl #[.slice (some ad) l.length cl] (by rfl) rfl rfl (by (try simp only [List.map_toArray, List.map_cons, List.map_nil]); first | done | rfl) ?_
                with_reducible refine (hown.out _ J0.out).mono ?_
                rintro e w' ⟨vo, rfl, hRo, hb⟩
                obtain ⟨Ao, co, rfl⟩ := Kd.R_slice hRo
                have hCo := Aside0.mk (Kd.R_reads' hRo).2.2
                clear hRo
                refine ⟨_, rfl, ?_⟩
                have hHeld2 := (hb.cell (World.block_lt_of_cell? _ _ hHeld)).trans hHeld
                replace L0 := Aside0.mk (below_step L0.out hb)
                replace J0 := Aside0.mk (below_step J0.out hb)
                replace F0 := Aside0.mk (blk_below F0.out hb)
                replace M0 := Aside0.mk (M0.out.below hb)
                refine hK.out _ _ hHeld2 (fun hHeld => ?_)
                clear hK K hb hHeld2
                refine norm_ (a' := ?_) ?_ ?_
                rotate_left
                · simp only [Act.put, List.setIfInBounds_toArray, List.set_cons_zero, List.set_cons_succ]
                  rfl
                refine one_ (i := 13) (N := some 97) #[true, true, true, true, true, true, true, true, true, true, true, true, true, true, false, false, false, false] rfl rfl (by kernel_rfl) (by decide) (fun K hK => ?_)
                refine goes_ Try.func14 (by kernel_rfl) rfl #[.slice Ao l.length co, .int .i64 x.f0] (by rfl) rfl rfl (by (try simp only [List.map_toArray, List.map_cons, List.map_nil]); first | done | rfl) ?_
                with_reducible refine (Place_calls (c := co) x.f0 hCo).mono ?_
                rw [hpx.out]
                rintro e w' ⟨rfl, hb⟩
                refine ⟨_, rfl, ?_⟩
                have hHeld2 := (hb.cell (World.block_lt_of_cell? _ _ hHeld)).trans hHeld
                replace L0 := Aside0.mk (below_step L0.out hb)
                replace J0 := Aside0.mk (below_step J0.out hb)
                replace F0 := Aside0.mk (blk_below F0.out hb)
                replace M0 := Aside0.mk (M0.out.below hb)
                refine hK.out _ _ hHeld2 (fun hHeld => ?_)
                clear hK K hb hHeld2
                refine norm_ (a' := ?_) ?_ ?_
                rotate_left
                · simp only [Act.put, List.setIfInBounds_toArray, List.set_cons_zero, List.set_cons_succ]
                  rfl
                refine pure_ (i := 14) (N := some 83) (v := ?_) (a' := ?_) #[true, true, true, true, true, true, true, true, true, true, true, true, true, true, true, false, false, false] rfl rfl (by kernel_rfl) (fun _ _ _ h => h) (Or.inl ⟨by rfl, ?_⟩) ?_ ?_
                rotate_left
                · intro w'
                  go_simp
                  try with_reducible rfl
                rotate_left
                · simp only [Act.put, List.setIfInBounds_toArray, List.set_cons_zero, List.set_cons_succ]
                  rfl
                refine pure_ (i := 15) (N := some 98) (v := ?_) (a' := ?_) #[true, true, true, true, true, true, true, true, true, true, true, true, true, true, true, true, false, false] rfl rfl (by kernel_rfl) (fun _ _ _ h => h) (Or.inl ⟨by rfl, ?_⟩) ?_ ?_
                rotate_left
                · intro w'
                  go_simp
                  try with_reducible rfl
                rotate_left
                · simp only [Act.put, List.setIfInBounds_toArray, List.set_cons_zero, List.set_cons_succ]
                  rfl
                refine pure_ (i := 16) (N := some 99) (v := ?_) (a' := ?_) #[true, true, true, true, true, true, true, true, true, true, true, true, true, true, true, true, true, false] rfl rfl (by kernel_rfl) (fun _ _ _ h => h) (Or.inl ⟨by rfl, ?_⟩) ?_ ?_
                rotate_left
                · intro w'
                  go_simp
                  try with_reducible rfl
                rotate_left
                · simp only [Act.put, List.setIfInBounds_toArray, List.set_cons_zero, List.set_cons_succ]
                  rfl
                refine last_ (i := 17) (N := none) #[true, true, true, true, true, true, true, true, true, true, true, true, true, true, true, true, true, true] rfl rfl (by kernel_rfl) (by decide) (fun K hK => ?_)
                have hpt := put M0.out x.f0 (4 * atV l (settle l) i)
                refine skip_ (w1 := putM w' mb x.f0 (4 * atV l (settle l) i)) (by rfl) rfl ?_ ?_
                · go_simp
                refine hK.out _ _ ?_
                clear hK K hpt
                refine done_ (by kernel_rfl) ?_
                have L1 : Aside0 (Below w.heap.size w (putM w' mb x.f0 (4 * atV l (settle l) i))) := ⟨put_below L0.out M0.out (Nat.le_trans (below_size (Below.refl _ _)) (by have := below_size L0.out; have := hmb.out; have := hw1.out; omega)) x.f0 _⟩
                have J1 : Aside0 (Below w1.heap.size w1 (putM w' mb x.f0 (4 * atV l (settle l) i))) := ⟨put_below J0.out M0.out hmb.out x.f0 _⟩
                have F1 : Aside0 ((putM w' mb x.f0 (4 * atV l (settle l) i)).heap[w.heap.size]? = some (fO A0 B0 h.length t.length c0 e0 m n)) := ⟨(put_block M0.out x.f0 _ _ (M0.out.cells F0.out)).trans F0.out⟩
                have M1 := Aside0.mk (put_mp M0.out x.f0 (4 * atV l (settle l) i))
                have hS1 : Aside0 (∀ j, j < h.length ∨ (qb ≤ j ∧ j < i + 1) → Sn l (up es x.f0 (4 * atV l (settle l) i)) j) := ⟨fun j hj => by
                  by_cases e : j = i
                  · subst e; exact hon.out
                  · exact hup.out j (by omega) (hS.out j (by omega))⟩
                clear hS hup hon hpx
                go_wp2_with fail
                go_roundw
                case rel => exact ⟨i + 1, _, by omega, by omega, by go_num, L1, J1, F1, M1, hS1⟩
                case measure => simp [intOf]; omega
              · have hS1 : Aside0 (∀ j, j < h.length ∨ (qb ≤ j ∧ j < i + 1) → Sn l es j) := ⟨fun j hj => by
                  by_cases e : j = i
                  · subst e; exact hno kp
                  · exact hS.out j (by omega)⟩
                clear hS hup hon hpx hno
                go_wp2_with fail
                go_roundw
                case rel => exact ⟨i + 1, _, by omega, by omega, by go_num, L0, J0, F0, M0, hS1⟩
                case measure => simp [intOf]; omega
            · obtain rfl : i = l.length := by omega
              have hSn : Aside0 (∀ j, j < l.length → Sn l es j) := ⟨fun j hj => by
                by_cases e1 : j < h.length
                · exact hS.out j (.inl e1)
                · by_cases e2 : qb ≤ j
                  · exact hS.out j (.inr ⟨e2, hj⟩)
                  · intro hp
                    rw [hmid.out j (by omega) (by omega)] at hp
                    omega⟩
              clear hS F0
              go_wp2_with fail
              go_loopw [9, 10] (fun u9 u10 wr => ∃ (i : Nat), i ≤ l.length ∧ u9 = .int .i64 (atV l (settle l) i) ∧ u10 = .int .i64 i ∧ Aside0 (Below w.heap.size w wr) ∧ Aside0 (Below w1.heap.size w1 wr) ∧ Aside0 (Mp wr mb es)) (fun _ u _ => l.length - (intOf u).toNat)
              case atStart => exact ⟨0, Nat.zero_le _, rfl, rfl, L0, J0, M0⟩
              case round =>
                clear L0 J0 M0
                obtain ⟨i, hi, rfl, rfl, L0, J0, M0⟩ := hrel
                have hr := atV_range l (settle l) i
                have hr2 := atV_mono l (settle l) l.length i hi
                have hm4 : IntKind.i64.wrap (4 * atV l (settle l) i) = 4 * atV l (settle l) i := IntWalk.i64_in _ (by omega)
                by_cases hlt : i < l.length
                · have q0 : (0 : Int) ≤ (i : Int) := by omega
                  have q1 : (i : Int) < (l.length : Int) := by omega
                  have hat : Aside0 (atV l (settle l) (i + 1) = atV l (settle l) i + szV (l.getD i z37) ((settle l).getD i false)) := ⟨rfl⟩
                  have hsn := Aside0.mk (hSn.out i hlt)
                  have hlx := hld.out i hlt
                  have hzr := szV_range (l.getD i z37) ((settle l).getD i false)
                  have hgo : (l.getD i z37).f2 ≠ 0 → (get es (l.getD i z37).f2).getD 0 = 4 * whV l (settle l) (l.getD i z37).f2 ∧ 0 ≤ whV l (settle l) (l.getD i z37).f2 ∧ whV l (settle l) (l.getD i z37).f2 ≤ 1000000000 := fun hne => by
                    have hl2 := (may_label _ (H.out.may i hlt)).2.1
                    obtain ⟨j, hj, e⟩ := H.out.goes i hlt (by omega)
                    have e1 := wh_at H.out (settle l) _ (by omega) j hj e
                    have e2 := hSn.out j hj (by rw [e]; omega)
                    rw [e] at e2
                    unfold whV
                    rw [e1, e2]
                    have := atV_range l (settle l) j
                    exact ⟨rfl, this.1, by simp only [Option.getD_some]; omega⟩
                  replace hgo := Aside0.mk hgo
                  obtain ⟨ad, ea, a0, a1, a2, a3, a4, a5, a6⟩ := at_T37 (Kd.C_below hC.out J0.out) (i : Int) (by omega) (by omega)
                  subst ea
                  simp only [Int.toNat_natCast, rd_L] at a0 a1 a2 a3 a4 a5 a6
                  generalize (settle l).getD i false = gi at *
                  unfold Sn at hsn
                  generalize l.getD i z37 = x at *
                  by_cases kp : 0 < x.f0
                  · have hlk := look M0.out x.f0
                    rw [hsn.out kp] at hlk
                    simp only [Option.getD_some] at hlk
                    have hne : (4 * atV l (settle l) i != 4 * atV l (settle l) i) = false := by simp
                    have hz : Aside0 (atV l (settle l) (i + 1) = atV l (settle l) i) := ⟨by rw [hat.out]; unfold szV; rw [if_pos kp]; omega⟩
                    clear hlx hgo
                    go_wp2_with fail
                    go_roundw
                    case rel => exact ⟨i + 1, by omega, by rw [hz.out], by go_num, L0, J0, M0⟩
                    case measure => simp [intOf]; omega
                  · obtain ⟨vv, hvv⟩ : ∃ vv, (get es x.f2).getD 0 = vv := ⟨_, rfl⟩
                    obtain ⟨to_, hto⟩ : ∃ to_, IntKind.i64.wrap (Int.tdiv vv 4) = to_ := ⟨_, rfl⟩
                    have hte : x.f2 ≠ 0 → to_ = whV l (settle l) x.f2 := fun hne => by
                      obtain ⟨e1, e2, e3⟩ := hgo.out hne
                      rw [← hto, ← hvv, e1, Int.tdiv_eq_ediv_of_nonneg (by omega), show 4 * whV l (settle l) x.f2 / 4 = whV l (settle l) x.f2 by omega]
                      exact IntWalk.i64_in _ (by omega)
                    replace hlx := Aside0.mk (hlx (by omega) to_ hte)
                    have hwz : IntKind.i64.wrap (atV l (settle l) i + szV x gi) = atV l (settle l) i + szV x gi := IntWalk.i64_in _ (by omega)
                    replace hvv := Aside0.mk hvv
                    clear hgo hte hsn
                    go_upto_region 23 with (fail)
                    replace kp := Aside0.mk kp
                    refine start_ (n := 20) (S := fun w' => w'.cell? (ad.add (i * 7)) = some (.int .i64 x.f0) ∧ w'.cell? ⟨(ad.add (i * 7)).block, (ad.add (i * 7)).off + 1, none⟩ = some (.int .i64 x.f1.f0) ∧ w'.cell? ⟨(ad.add (i * 7)).block, (ad.add (i * 7)).off + 2, none⟩ = some (.int .i64 x.f1.f1) ∧ w'.cell? ⟨(ad.add (i * 7)).block, (ad.add (i * 7)).off + 3, none⟩ = some (.int .i64 x.f1.f2) ∧ w'.cell? ⟨(ad.add (i * 7)).block, (ad.add (i * 7)).off + 4, none⟩ = some (.int .i64 x.f1.f3) ∧ w'.cell? ⟨(ad.add (i * 7)).block, (ad.add (i * 7)).off + 5, none⟩ = some (.int .i32 x.f1.f4) ∧ w'.cell? ⟨(ad.add (i * 7)).block, (ad.add (i * 7)).off + 6, none⟩ = some (.int .i64 x.f2) ∧ Mp w' mb es) (ds := []) #[false, false, false, false, false, false, false, false, false, false, false, false, false, false, false, false, false, false, false, false] (by kernel_rfl) rfl rfl (⟨a0, a1, a2, a3, a4, a5, a6, M0.out.keep rfl⟩) (fun hHeld => ?_)
                    replace L0 : Aside0 (Below w.heap.size w wr.drew) := ⟨below_drew L0.out⟩
                    replace J0 : Aside0 (Below w1.heap.size w1 wr.drew) := ⟨below_drew J0.out⟩
                    replace M0 : Aside0 (Mp wr.drew mb es) := ⟨M0.out.keep rfl⟩
                    clear a0 a1 a2 a3 a4 a5 a6
                    generalize wr.drew = W5 at *
                    refine pure_ (i := 0) (N := some 123) (v := ?_) (a' := ?_) #[true, false, false, false, false, false, false, false, false, false, false, false, false, false, false, false, false, false, false, false] rfl rfl (by kernel_rfl) (fun _ _ _ h => h) (Or.inl ⟨by rfl, ?_⟩) ?_ ?_
                    rotate_left
                    · intro w'
                      go_simp
                      try with_reducible rfl
                    rotate_left
                    · simp only [Act.put, List.setIfInBounds_toArray, List.set_cons_zero, List.set_cons_succ]
                      rfl
                    refine pure_ (i := 1) (N := some 124) (v := ?_) (a' := ?_) #[true, true, false, false, false, false, false, false, false, false, false, false, false, false, false, false, false, false, false, false] rfl rfl (by kernel_rfl) (fun _ _ _ h => h) (Or.inl ⟨by rfl, ?_⟩) ?_ ?_
                    rotate_left
                    · intro w'
                      go_simp
                      try with_reducible rfl
                    rotate_left
                    · simp only [Act.put, List.setIfInBounds_toArray, List.set_cons_zero, List.set_cons_succ]
                      rfl
                    refine pure_ (i := 2) (N := some 125) (v := ?_) (a' := ?_) #[true, true, true, false, false, false, false, false, false, false, false, false, false, false, false, false, false, false, false, false] rfl rfl (by kernel_rfl) (fun _ _ _ h => h) (Or.inl ⟨by rfl, ?_⟩) ?_ ?_
                    rotate_left
                    · intro w'
                      go_simp
                      try with_reducible rfl
                    rotate_left
                    · simp only [Act.put, List.setIfInBounds_toArray, List.set_cons_zero, List.set_cons_succ]
                      rfl
                    refine pure_ (i := 3) (N := some 126) (v := ?_) (a' := ?_) #[true, true, true, true, false, false, false, false, false, false, false, false, false, false, false, false, false, false, false, false] rfl rfl (by kernel_rfl) (fun _ _ _ h => h) (Or.inl ⟨by rfl, ?_⟩) ?_ ?_
                    rotate_left
                    · intro w'
                      go_simp
                      try with_reducible rfl
                    rotate_left
                    · simp only [Act.put, List.setIfInBounds_toArray, List.set_cons_zero, List.set_cons_succ]
                      rfl
                    refine pure_ (i := 4) (N := some 127) (v := ?_) (a' := ?_) #[true, true, true, true, true, false, false, false, false, false, false, false, false, false, false, false, false, false, false, false] rfl rfl (by kernel_rfl) (fun _ _ _ h => h) (Or.inl ⟨by rfl, ?_⟩) ?_ ?_
                    rotate_left
                    · intro w'
                      go_simp
                      try with_reducible rfl
                    rotate_left
                    · simp only [Act.put, List.setIfInBounds_toArray, List.set_cons_zero, List.set_cons_succ]
                      rfl
                    refine pure_ (i := 6) (N := some 129) (v := ?_) (a' := ?_) #[true, true, true, true, true, false, true, false, false, false, false, false, false, false, false, false, false, false, false, false] rfl rfl (by kernel_rfl) (fun _ _ _ h => h) (Or.inl ⟨by rfl, ?_⟩) ?_ ?_
                    rotate_left
                    · intro w'
                      go_simp
                      try with_reducible rfl
                    rotate_left
                    · simp only [Act.put, List.setIfInBounds_toArray, List.set_cons_zero, List.set_cons_succ]
                      rfl
                    refine pure_ (i := 7) (N := some 130) (v := ?_) (a' := ?_) #[true, true, true, true, true, false, true, true, false, false, false, false, false, false, false, false, false, false, false, false] rfl rfl (by kernel_rfl) (fun _ _ _ h => h) (Or.inl ⟨by rfl, ?_⟩) ?_ ?_
                    rotate_left
                    · intro w'
                      go_simp
                      try with_reducible rfl
                    rotate_left
                    · simp only [Act.put, List.setIfInBounds_toArray, List.set_cons_zero, List.set_cons_succ]
                      rfl
                    refine pure_ (i := 8) (N := some 131) (v := ?_) (a' := ?_) #[true, true, true, true, true, false, true, true, true, false, false, false, false, false, false, false, false, false, false, false] rfl rfl (by kernel_rfl) (fun _ _ _ h => h) (Or.inl ⟨by rfl, ?_⟩) ?_ ?_
                    rotate_left
                    · intro w'
                      go_simp
                      try with_reducible rfl
                    rotate_left
                    · simp only [Act.put, List.setIfInBounds_toArray, List.set_cons_zero, List.set_cons_succ]
                      rfl
                    refine pure_ (i := 9) (N := some 132) (v := ?_) (a' := ?_) #[true, true, true, true, true, false, true, true, true, true, false, false, false, false, false, false, false, false, false, false] rfl rfl (by kernel_rfl) (fun _ _ _ h => h) (Or.inl ⟨by rfl, ?_⟩) ?_ ?_
                    rotate_left
                    · intro w'
                      go_simp
                      try with_reducible rfl
                    rotate_left
                    · simp only [Act.put, List.setIfInBounds_toArray, List.set_cons_zero, List.set_cons_succ]
                      rfl
                    refine pure_ (i := 10) (N := some 133) (v := ?_) (a' := ?_) #[true, true, true, true, true, false, true, true, true, true, true, false, false, false, false, false, false, false, false, false] rfl rfl (by kernel_rfl) (fun _ _ _ h => h) (Or.inl ⟨by rfl, ?_⟩) ?_ ?_
                    rotate_left
                    · intro w'
                      go_simp
                      try with_reducible rfl
                    rotate_left
                    · simp only [Act.put, List.setIfInBounds_toArray, List.set_cons_zero, List.set_cons_succ]
                      rfl
                    refine take_ (i := 5) (N := some 128) (v := ?_) (a' := ?_) #[true, true, true, true, true, true, true, true, true, true, true, false, false, false, false, false, false, false, false, false] rfl rfl (by kernel_rfl) (fun _ _ _ h => h) (Or.inl ⟨by rfl, ?_⟩) hHeld ?_ ?_
                    rotate_left
                    · intro w' s0
                      obtain ⟨s0_, s1_, s2_, s3_, s4_, s5_, s6_, s7_⟩ := s0
                      go_simp
                      try with_reducible rfl
                    rotate_left
                    · simp only [Act.put, List.setIfInBounds_toArray, List.set_cons_zero, List.set_cons_succ]
                      rfl
                    refine take_ (i := 11) (N := some 134) (v := ?_) (a' := ?_) #[true, true, true, true, true, true, true, true, true, true, true, true, false, false, false, false, false, false, false, false] rfl rfl (by kernel_rfl) (fun _ _ _ h => h) (Or.inl ⟨by rfl, ?_⟩) hHeld ?_ ?_
                    rotate_left
                    · intro w' s0
                      obtain ⟨s0_, s1_, s2_, s3_, s4_, s5_, s6_, s7_⟩ := s0
                      go_simp
                      try with_reducible rfl
                    rotate_left
                    · simp only [Act.put, List.setIfInBounds_toArray, List.set_cons_zero, List.set_cons_succ]
                      rfl
                    refine take_ (i := 12) (N := some 135) (v := ?_) (a' := ?_) #[true, true, true, true, true, true, true, true, true, true, true, true, true, false, false, false, false, false, false, false] rfl rfl (by kernel_rfl) (fun _ _ _ h => h) (Or.inl ⟨by rfl, ?_⟩) hHeld ?_ ?_
                    rotate_left
                    · intro w' s0
                      obtain ⟨s0_, s1_, s2_, s3_, s4_, s5_, s6_, s7_⟩ := s0; have hlk := look s7_ x.f2; rw [hvv.out] at hlk
                      go_simp
                      try with_reducible rfl
                    rotate_left
                    · simp only [Act.put, List.setIfInBounds_toArray, List.set_cons_zero, List.set_cons_succ]
                      rfl
                    refine pure_ (i := 13) (N := some 136) (v := ?_) (a' := ?_) #[true, true, true, true, true, true, true, true, true, true, true, true, true, true, false, false, false, false, false, false] rfl rfl (by kernel_rfl) (fun _ _ _ h => h) (Or.inl ⟨by rfl, ?_⟩) ?_ ?_
                    rotate_left
                    · intro w'
                      go_simp
                      try with_reducible rfl
                    rotate_left
                    · simp only [Act.put, List.setIfInBounds_toArray, List.set_cons_zero, List.set_cons_succ]
                      rfl
                    refine one_ (i := 14) (N := some 137) #[true, true, true, true, true, true, true, true, true, true, true, true, true, true, true, false, false, false, false, false] rfl rfl (by kernel_rfl) (by decide) (fun K hK => ?_)
                    refine goes_ Try.func16 (by kernel_rfl) rfl #[.string s, .int .i64 (atV l (settle l) i), agL x, .int .i64 to_] (by rfl) rfl rfl (by (try simp only [List.map_toArray, List.map_cons, List.map_nil]); first | done | rfl) ?_
                    with_reducible refine (hlx.out _).mono ?_
                    rintro e w' ⟨rfl, hb⟩
                    refine ⟨_, rfl, ?_⟩
                    obtain ⟨s0_, s1_, s2_, s3_, s4_, s5_, s6_, s7_⟩ := hHeld
                    have hHeld2 : w'.cell? (ad.add (i * 7)) = some (.int .i64 x.f0) ∧ w'.cell? ⟨(ad.add (i * 7)).block, (ad.add (i * 7)).off + 1, none⟩ = some (.int .i64 x.f1.f0) ∧ w'.cell? ⟨(ad.add (i * 7)).block, (ad.add (i * 7)).off + 2, none⟩ = some (.int .i64 x.f1.f1) ∧ w'.cell? ⟨(ad.add (i * 7)).block, (ad.add (i * 7)).off + 3, none⟩ = some (.int .i64 x.f1.f2) ∧ w'.cell? ⟨(ad.add (i * 7)).block, (ad.add (i * 7)).off + 4, none⟩ = some (.int .i64 x.f1.f3) ∧ w'.cell? ⟨(ad.add (i * 7)).block, (ad.add (i * 7)).off + 5, none⟩ = some (.int .i32 x.f1.f4) ∧ w'.cell? ⟨(ad.add (i * 7)).block, (ad.add (i * 7)).off + 6, none⟩ = some (.int .i64 x.f2) ∧ Mp w' mb es := ⟨(hb.cell (World.block_lt_of_cell? _ _ s0_)).trans s0_, (hb.cell (World.block_lt_of_cell? _ _ s1_)).trans s1_, (hb.cell (World.block_lt_of_cell? _ _ s2_)).trans s2_, (hb.cell (World.block_lt_of_cell? _ _ s3_)).trans s3_, (hb.cell (World.block_lt_of_cell? _ _ s4_)).trans s4_, (hb.cell (World.block_lt_of_cell? _ _ s5_)).trans s5_, (hb.cell (World.block_lt_of_cell? _ _ s6_)).trans s6_, s7_.below hb⟩
                    replace L0 := Aside0.mk (below_step L0.out hb)
                    replace J0 := Aside0.mk (below_step J0.out hb)
                    replace M0 := Aside0.mk (M0.out.below hb)
                    refine hK.out _ _ hHeld2 (fun hHeld => ?_)
                    clear hK K hb hHeld2 s0_ s1_ s2_ s3_ s4_ s5_ s6_ s7_
                    refine norm_ (a' := ?_) ?_ ?_
                    rotate_left
                    · simp only [Act.put, List.setIfInBounds_toArray, List.set_cons_zero, List.set_cons_succ]
                      rfl
                    refine pure_ (i := 15) (N := some 122) (v := ?_) (a' := ?_) #[true, true, true, true, true, true, true, true, true, true, true, true, true, true, true, true, false, false, false, false] rfl rfl (by kernel_rfl) (fun _ _ _ h => h) (Or.inl ⟨by rfl, ?_⟩) ?_ ?_
                    rotate_left
                    · intro w'
                      go_simp
                      try with_reducible rfl
                    rotate_left
                    · simp only [Act.put, List.setIfInBounds_toArray, List.set_cons_zero, List.set_cons_succ]
                      rfl
                    refine pure_ (i := 16) (N := some 138) (v := ?_) (a' := ?_) #[true, true, true, true, true, true, true, true, true, true, true, true, true, true, true, true, true, false, false, false] rfl rfl (by kernel_rfl) (fun _ _ _ h => h) (Or.inl ⟨by rfl, ?_⟩) ?_ ?_
                    rotate_left
                    · intro w'
                      go_simp
                      try with_reducible rfl
                    rotate_left
                    · simp only [Act.put, List.setIfInBounds_toArray, List.set_cons_zero, List.set_cons_succ]
                      rfl
                    refine pure_ (i := 17) (N := some 139) (v := ?_) (a' := ?_) #[true, true, true, true, true, true, true, true, true, true, true, true, true, true, true, true, true, true, false, false] rfl rfl (by kernel_rfl) (fun _ _ _ h => h) (Or.inl ⟨by rfl, ?_⟩) ?_ ?_
                    rotate_left
                    · intro w'
                      go_simp
                      try with_reducible rfl
                    rotate_left
                    · simp only [Act.put, List.setIfInBounds_toArray, List.set_cons_zero, List.set_cons_succ]
                      rfl
                    refine pure_ (i := 18) (N := some 11) (v := ?_) (a' := ?_) #[true, true, true, true, true, true, true, true, true, true, true, true, true, true, true, true, true, true, true, false] rfl rfl (by kernel_rfl) (fun _ _ _ h => h) (Or.inl ⟨by rfl, ?_⟩) ?_ ?_
                    rotate_left
                    · intro w'
                      go_simp
                      try with_reducible rfl
                    rotate_left
                    · simp only [Act.put, List.setIfInBounds_toArray, List.set_cons_zero, List.set_cons_succ]
                      rfl
                    refine pure_ (i := 19) (N := some 12) (v := ?_) (a' := ?_) #[true, true, true, true, true, true, true, true, true, true, true, true, true, true, true, true, true, true, true, true] rfl rfl (by kernel_rfl) (fun _ _ _ h => h) (Or.inl ⟨by rfl, ?_⟩) ?_ ?_
                    rotate_left
                    · intro w'
                      go_simp
                      try with_reducible rfl
                    rotate_left
                    · simp only [Act.put, List.setIfInBounds_toArray, List.set_cons_zero, List.set_cons_succ]
                      rfl
                    refine done_ (by kernel_rfl) ?_
                    go_wp2_with fail
                    go_roundw
                    case rel => exact ⟨i + 1, by omega, by rw [hat.out], by go_num, L0, J0, M0⟩
                    case measure => simp [intOf]; omega
                · obtain rfl : i = l.length := by omega
                  have he : (4 * atV l (settle l) l.length == (s.size : Int)) = true := by rw [hsz]; simp
                  replace hsz := Aside0.mk hsz
                  go_wp2_with (go_at_call 13; (with_reducible refine (cruciblelaw06_awake.calls true _ haw.out).mono ?_); rintro e w5 ⟨rfl, hb5⟩; replace hb5 := Aside0.mk hb5)
                  go_ret
                  exact ⟨rfl, below_step L0.out hb5.out⟩
        · have d1 : decide ((h.length : Int) < (l.length : Int)) = false := decide_eq_false (by omega)
          go_wp2_with fail
          go_loopw [8] (fun u8 wr => ∃ (i : Nat) (es : Mm), qb ≤ i ∧ i ≤ l.length ∧ u8 = .int .i64 i ∧ Aside0 (Below w.heap.size w wr) ∧ Aside0 (Below w1.heap.size w1 wr) ∧ Aside0 (wr.heap[w.heap.size]? = some (fO A0 B0 h.length t.length c0 e0 m n)) ∧ Aside0 (Mp wr mb es) ∧ Aside0 (∀ j, j < h.length ∨ (qb ≤ j ∧ j < i) → Sn l es j)) (fun u _ => l.length - (intOf u).toNat)
          case atStart => exact ⟨qb, es, Nat.le_refl _, by omega, by first | rfl | rw [hsb], L0, J0, F0, M0, hS0⟩
          case round =>
            clear L0 J0 F0 M0 hS0 v0 v7 d1 d2 dl
            obtain ⟨i, es, hi1, hi2, rfl, L0, J0, F0, M0, hS⟩ := hrel
            by_cases hlt : i < l.length
            · skip
              have q0 : (0 : Int) ≤ (i : Int) := by omega
              have q1 : (i : Int) < (l.length : Int) := by omega
              obtain ⟨ad, ea, a0, a1, a2, a3, a4, a5, a6⟩ := at_T37 (Kd.C_below hC.out J0.out) (i : Int) (by omega) (by omega)
              subst ea
              simp only [Int.toNat_natCast, rd_L] at a0
              clear a1 a2 a3 a4 a5 a6
              have hpx := hpl.out i (by omega)
              have hup := fun hp j hj hs => Sn_up H.out (es := es) (i := i) (j := j) (by omega) hj hs hp
              have hon := Sn_own (l := l) (es := es) (i := i)
              have hno : ¬ 0 < (l.getD i z37).f0 → Sn l es i := fun h1 h2 => absurd h2 h1
              generalize l.getD i z37 = x at *
              by_cases kp : 0 < x.f0
              · replace hpx := hpx kp
                replace hup := Aside0.mk (hup kp)
                replace hon := Aside0.mk hon
                clear hno
                replace kp := kp
                go_upto_region 15 with (fail)
                replace kp := Aside0.mk kp
                refine start_ (n := 18) (S := fun w' => w'.cell? (ad.add (i * 7)) = some (.int .i64 x.f0)) (ds := [17]) #[false, false, false, false, false, false, false, false, false, false, false, false, false, false, false, false, false, false] (by kernel_rfl) rfl rfl (a0) (fun hHeld => ?_)
                replace L0 : Aside0 (Below w.heap.size w wr.drew) := ⟨below_drew L0.out⟩
                replace J0 : Aside0 (Below w1.heap.size w1 wr.drew) := ⟨below_drew J0.out⟩
                replace F0 : Aside0 (wr.drew.heap[w.heap.size]? = some (fO A0 B0 h.length t.length c0 e0 m n)) := ⟨F0.out⟩
                replace M0 : Aside0 (Mp wr.drew mb es) := ⟨M0.out.keep rfl⟩
                clear a0
                generalize wr.drew = W5 at *
                refine pure_ (i := 0) (N := some 84) (v := ?_) (a' := ?_) #[true, false, false, false, false, false, false, false, false, false, false, false, false, false, false, false, false, false] rfl rfl (by kernel_rfl) (fun _ _ _ h => h) (Or.inl ⟨by rfl, ?_⟩) ?_ ?_
                rotate_left
                · intro w'
                  go_simp
                  try with_reducible rfl
                rotate_left
                · simp only [Act.put, List.setIfInBounds_toArray, List.set_cons_zero, List.set_cons_succ]
                  rfl
                refine pure_ (i := 1) (N := some 85) (v := ?_) (a' := ?_) #[true, true, false, false, false, false, false, false, false, false, false, false, false, false, false, false, false, false] rfl rfl (by kernel_rfl) (fun _ _ _ h => h) (Or.inl ⟨by rfl, ?_⟩) ?_ ?_
                rotate_left
                · intro w'
                  go_simp
                  try with_reducible rfl
                rotate_left
                · simp only [Act.put, List.setIfInBounds_toArray, List.set_cons_zero, List.set_cons_succ]
                  rfl
                refine pure_ (i := 2) (N := some 86) (v := ?_) (a' := ?_) #[true, true, true, false, false, false, false, false, false, false, false, false, false, false, false, false, false, false] rfl rfl (by kernel_rfl) (fun _ _ _ h => h) (Or.inl ⟨by rfl, ?_⟩) ?_ ?_
                rotate_left
                · intro w'
                  go_simp
                  try with_reducible rfl
                rotate_left
                · simp only [Act.put, List.setIfInBounds_toArray, List.set_cons_zero, List.set_cons_succ]
                  rfl
                refine pure_ (i := 3) (N := some 87) (v := ?_) (a' := ?_) #[true, true, true, true, false, false, false, false, false, false, false, false, false, false, false, false, false, false] rfl rfl (by kernel_rfl) (fun _ _ _ h => h) (Or.inl ⟨by rfl, ?_⟩) ?_ ?_
                rotate_left
                · intro w'
                  go_simp
                  try with_reducible rfl
                rotate_left
                · simp only [Act.put, List.setIfInBounds_toArray, List.set_cons_zero, List.set_cons_succ]
                  rfl
                refine pure_ (i := 4) (N := some 88) (v := ?_) (a' := ?_) #[true, true, true, true, true, false, false, false, false, false, false, false, false, false, false, false, false, false] rfl rfl (by kernel_rfl) (fun _ _ _ h => h) (Or.inl ⟨by rfl, ?_⟩) ?_ ?_
                rotate_left
                · intro w'
                  go_simp
                  try with_reducible rfl
                rotate_left
                · simp only [Act.put, List.setIfInBounds_toArray, List.set_cons_zero, List.set_cons_succ]
                  rfl
                refine pure_ (i := 6) (N := some 90) (v := ?_) (a' := ?_) #[true, true, true, true, true, false, true, false, false, false, false, false, false, false, false, false, false, false] rfl rfl (by kernel_rfl) (fun _ _ _ h => h) (Or.inl ⟨by rfl, ?_⟩) ?_ ?_
                rotate_left
                · intro w'
                  go_simp
                  try with_reducible rfl
                rotate_left
                · simp only [Act.put, List.setIfInBounds_toArray, List.set_cons_zero, List.set_cons_succ]
                  rfl
                refine pure_ (i := 8) (N := some 92) (v := ?_) (a' := ?_) #[true, true, true, true, true, false, true, false, true, false, false, false, false, false, false, false, false, false] rfl rfl (by kernel_rfl) (fun _ _ _ h => h) (Or.inl ⟨by rfl, ?_⟩) ?_ ?_
                rotate_left
                · intro w'
                  go_simp
                  try with_reducible rfl
                rotate_left
                · simp only [Act.put, List.setIfInBounds_toArray, List.set_cons_zero, List.set_cons_succ]
                  rfl
                refine pure_ (i := 9) (N := some 93) (v := ?_) (a' := ?_) #[true, true, true, true, true, false, true, false, true, true, false, false, false, false, false, false, false, false] rfl rfl (by kernel_rfl) (fun _ _ _ h => h) (Or.inl ⟨by rfl, ?_⟩) ?_ ?_
                rotate_left
                · intro w'
                  go_simp
                  try with_reducible rfl
                rotate_left
                · simp only [Act.put, List.setIfInBounds_toArray, List.set_cons_zero, List.set_cons_succ]
                  rfl
                refine pure_ (i := 10) (N := some 94) (v := ?_) (a' := ?_) #[true, true, true, true, true, false, true, false, true, true, true, false, false, false, false, false, false, false] rfl rfl (by kernel_rfl) (fun _ _ _ h => h) (Or.inl ⟨by rfl, ?_⟩) ?_ ?_
                rotate_left
                · intro w'
                  go_simp
                  try with_reducible rfl
                rotate_left
                · simp only [Act.put, List.setIfInBounds_toArray, List.set_cons_zero, List.set_cons_succ]
                  rfl
                refine pure_ (i := 11) (N := some 95) (v := ?_) (a' := ?_) #[true, true, true, true, true, false, true, false, true, true, true, true, false, false, false, false, false, false] rfl rfl (by kernel_rfl) (fun _ _ _ h => h) (Or.inl ⟨by rfl, ?_⟩) ?_ ?_
                rotate_left
                · intro w'
                  go_simp
                  try with_reducible rfl
                rotate_left
                · simp only [Act.put, List.setIfInBounds_toArray, List.set_cons_zero, List.set_cons_succ]
                  rfl
                refine take_ (i := 5) (N := some 89) (v := ?_) (a' := ?_) #[true, true, true, true, true, true, true, false, true, true, true, true, false, false, false, false, false, false] rfl rfl (by kernel_rfl) (fun _ _ _ h => h) (Or.inl ⟨by rfl, ?_⟩) hHeld ?_ ?_
                rotate_left
                · intro w' s0
                  go_simp
                  try with_reducible rfl
                rotate_left
                · simp only [Act.put, List.setIfInBounds_toArray, List.set_cons_zero, List.set_cons_succ]
                  rfl
                refine take_ (i := 12) (N := some 96) (v := ?_) (a' := ?_) #[true, true, true, true, true, true, true, false, true, true, true, true, true, false, false, false, false, false] rfl rfl (by kernel_rfl) (fun _ _ _ h => h) (Or.inl ⟨by rfl, ?_⟩) hHeld ?_ ?_
                rotate_left
                · intro w' s0
                  go_simp
                  try with_reducible rfl
                rotate_left
                · simp only [Act.put, List.setIfInBounds_toArray, List.set_cons_zero, List.set_cons_succ]
                  rfl
                refine one_ (i := 7) (N := some 91) #[true, true, true, true, true, true, true, true, true, true, true, true, true, false, false, false, false, false] rfl rfl (by kernel_rfl) (by decide) (fun K hK => ?_)
                refine goes_ Try.func9 (by kernel_rfl) rfl #[.slice (some ad) l.length cl] (by rfl) rfl rfl (by (try simp only [List.map_toArray, List.map_cons, List.map_nil]); first | done | rfl) ?_
                with_reducible refine (hown.out _ J0.out).mono ?_
                rintro e w' ⟨vo, rfl, hRo, hb⟩
                obtain ⟨Ao, co, rfl⟩ := Kd.R_slice hRo
                have hCo := Aside0.mk (Kd.R_reads' hRo).2.2
                clear hRo
                refine ⟨_, rfl, ?_⟩
                have hHeld2 := (hb.cell (World.block_lt_of_cell? _ _ hHeld)).trans hHeld
                replace L0 := Aside0.mk (below_step L0.out hb)
                replace J0 := Aside0.mk (below_step J0.out hb)
                replace F0 := Aside0.mk (blk_below F0.out hb)
                replace M0 := Aside0.mk (M0.out.below hb)
                refine hK.out _ _ hHeld2 (fun hHeld => ?_)
                clear hK K hb hHeld2
                refine norm_ (a' := ?_) ?_ ?_
                rotate_left
                · simp only [Act.put, List.setIfInBounds_toArray, List.set_cons_zero, List.set_cons_succ]
                  rfl
                refine one_ (i := 13) (N := some 97) #[true, true, true, true, true, true, true, true, true, true, true, true, true, true, false, false, false, false] rfl rfl (by kernel_rfl) (by decide) (fun K hK => ?_)
                refine goes_ Try.func14 (by kernel_rfl) rfl #[.slice Ao l.length co, .int .i64 x.f0] (by rfl) rfl rfl (by (try simp only [List.map_toArray, List.map_cons, List.map_nil]); first | done | rfl) ?_
                with_reducible refine (Place_calls (c := co) x.f0 hCo).mono ?_
                rw [hpx.out]
                rintro e w' ⟨rfl, hb⟩
                refine ⟨_, rfl, ?_⟩
                have hHeld2 := (hb.cell (World.block_lt_of_cell? _ _ hHeld)).trans hHeld
                replace L0 := Aside0.mk (below_step L0.out hb)
                replace J0 := Aside0.mk (below_step J0.out hb)
                replace F0 := Aside0.mk (blk_below F0.out hb)
                replace M0 := Aside0.mk (M0.out.below hb)
                refine hK.out _ _ hHeld2 (fun hHeld => ?_)
                clear hK K hb hHeld2
                refine norm_ (a' := ?_) ?_ ?_
                rotate_left
                · simp only [Act.put, List.setIfInBounds_toArray, List.set_cons_zero, List.set_cons_succ]
                  rfl
                refine pure_ (i := 14) (N := some 83) (v := ?_) (a' := ?_) #[true, true, true, true, true, true, true, true, true, true, true, true, true, true, true, false, false, false] rfl rfl (by kernel_rfl) (fun _ _ _ h => h) (Or.inl ⟨by rfl, ?_⟩) ?_ ?_
                rotate_left
                · intro w'
                  go_simp
                  try with_reducible rfl
                rotate_left
                · simp only [Act.put, List.setIfInBounds_toArray, List.set_cons_zero, List.set_cons_succ]
                  rfl
                refine pure_ (i := 15) (N := some 98) (v := ?_) (a' := ?_) #[true, true, true, true, true, true, true, true, true, true, true, true, true, true, true, true, false, false] rfl rfl (by kernel_rfl) (fun _ _ _ h => h) (Or.inl ⟨by rfl, ?_⟩) ?_ ?_
                rotate_left
                · intro w'
                  go_simp
                  try with_reducible rfl
                rotate_left
                · simp only [Act.put, List.setIfInBounds_toArray, List.set_cons_zero, List.set_cons_succ]
                  rfl
                refine pure_ (i := 16) (N := some 99) (v := ?_) (a' := ?_) #[true, true, true, true, true, true, true, true, true, true, true, true, true, true, true, true, true, false] rfl rfl (by kernel_rfl) (fun _ _ _ h => h) (Or.inl ⟨by rfl, ?_⟩) ?_ ?_
                rotate_left
                · intro w'
                  go_simp
                  try with_reducible rfl
                rotate_left
                · simp only [Act.put, List.setIfInBounds_toArray, List.set_cons_zero, List.set_cons_succ]
                  rfl
                refine last_ (i := 17) (N := none) #[true, true, true, true, true, true, true, true, true, true, true, true, true, true, true, true, true, true] rfl rfl (by kernel_rfl) (by decide) (fun K hK => ?_)
                have hpt := put M0.out x.f0 (4 * atV l (settle l) i)
                refine skip_ (w1 := putM w' mb x.f0 (4 * atV l (settle l) i)) (by rfl) rfl ?_ ?_
                · go_simp
                refine hK.out _ _ ?_
                clear hK K hpt
                refine done_ (by kernel_rfl) ?_
                have L1 : Aside0 (Below w.heap.size w (putM w' mb x.f0 (4 * atV l (settle l) i))) := ⟨put_below L0.out M0.out (Nat.le_trans (below_size (Below.refl _ _)) (by have := below_size L0.out; have := hmb.out; have := hw1.out; omega)) x.f0 _⟩
                have J1 : Aside0 (Below w1.heap.size w1 (putM w' mb x.f0 (4 * atV l (settle l) i))) := ⟨put_below J0.out M0.out hmb.out x.f0 _⟩
                have F1 : Aside0 ((putM w' mb x.f0 (4 * atV l (settle l) i)).heap[w.heap.size]? = some (fO A0 B0 h.length t.length c0 e0 m n)) := ⟨(put_block M0.out x.f0 _ _ (M0.out.cells F0.out)).trans F0.out⟩
                have M1 := Aside0.mk (put_mp M0.out x.f0 (4 * atV l (settle l) i))
                have hS1 : Aside0 (∀ j, j < h.length ∨ (qb ≤ j ∧ j < i + 1) → Sn l (up es x.f0 (4 * atV l (settle l) i)) j) := ⟨fun j hj => by
                  by_cases e : j = i
                  · subst e; exact hon.out
                  · exact hup.out j (by omega) (hS.out j (by omega))⟩
                clear hS hup hon hpx
                go_wp2_with fail
                go_roundw
                case rel => exact ⟨i + 1, _, by omega, by omega, by go_num, L1, J1, F1, M1, hS1⟩
                case measure => simp [intOf]; omega
              · have hS1 : Aside0 (∀ j, j < h.length ∨ (qb ≤ j ∧ j < i + 1) → Sn l es j) := ⟨fun j hj => by
                  by_cases e : j = i
                  · subst e; exact hno kp
                  · exact hS.out j (by omega)⟩
                clear hS hup hon hpx hno
                go_wp2_with fail
                go_roundw
                case rel => exact ⟨i + 1, _, by omega, by omega, by go_num, L0, J0, F0, M0, hS1⟩
                case measure => simp [intOf]; omega
            · obtain rfl : i = l.length := by omega
              have hSn : Aside0 (∀ j, j < l.length → Sn l es j) := ⟨fun j hj => by
                by_cases e1 : j < h.length
                · exact hS.out j (.inl e1)
                · by_cases e2 : qb ≤ j
                  · exact hS.out j (.inr ⟨e2, hj⟩)
                  · intro hp
                    rw [hmid.out j (by omega) (by omega)] at hp
                    omega⟩
              clear hS F0
              go_wp2_with fail
              go_loopw [9, 10] (fun u9 u10 wr => ∃ (i : Nat), i ≤ l.length ∧ u9 = .int .i64 (atV l (settle l) i) ∧ u10 = .int .i64 i ∧ Aside0 (Below w.heap.size w wr) ∧ Aside0 (Below w1.heap.size w1 wr) ∧ Aside0 (Mp wr mb es)) (fun _ u _ => l.length - (intOf u).toNat)
              case atStart => exact ⟨0, Nat.zero_le _, rfl, rfl, L0, J0, M0⟩
              case round =>
                clear L0 J0 M0
                obtain ⟨i, hi, rfl, rfl, L0, J0, M0⟩ := hrel
                have hr := atV_range l (settle l) i
                have hr2 := atV_mono l (settle l) l.length i hi
                have hm4 : IntKind.i64.wrap (4 * atV l (settle l) i) = 4 * atV l (settle l) i := IntWalk.i64_in _ (by omega)
                by_cases hlt : i < l.length
                · have q0 : (0 : Int) ≤ (i : Int) := by omega
                  have q1 : (i : Int) < (l.length : Int) := by omega
                  have hat : Aside0 (atV l (settle l) (i + 1) = atV l (settle l) i + szV (l.getD i z37) ((settle l).getD i false)) := ⟨rfl⟩
                  have hsn := Aside0.mk (hSn.out i hlt)
                  have hlx := hld.out i hlt
                  have hzr := szV_range (l.getD i z37) ((settle l).getD i false)
                  have hgo : (l.getD i z37).f2 ≠ 0 → (get es (l.getD i z37).f2).getD 0 = 4 * whV l (settle l) (l.getD i z37).f2 ∧ 0 ≤ whV l (settle l) (l.getD i z37).f2 ∧ whV l (settle l) (l.getD i z37).f2 ≤ 1000000000 := fun hne => by
                    have hl2 := (may_label _ (H.out.may i hlt)).2.1
                    obtain ⟨j, hj, e⟩ := H.out.goes i hlt (by omega)
                    have e1 := wh_at H.out (settle l) _ (by omega) j hj e
                    have e2 := hSn.out j hj (by rw [e]; omega)
                    rw [e] at e2
                    unfold whV
                    rw [e1, e2]
                    have := atV_range l (settle l) j
                    exact ⟨rfl, this.1, by simp only [Option.getD_some]; omega⟩
                  replace hgo := Aside0.mk hgo
                  obtain ⟨ad, ea, a0, a1, a2, a3, a4, a5, a6⟩ := at_T37 (Kd.C_below hC.out J0.out) (i : Int) (by omega) (by omega)
                  subst ea
                  simp only [Int.toNat_natCast, rd_L] at a0 a1 a2 a3 a4 a5 a6
                  generalize (settle l).getD i false = gi at *
                  unfold Sn at hsn
                  generalize l.getD i z37 = x at *
                  by_cases kp : 0 < x.f0
                  · have hlk := look M0.out x.f0
                    rw [hsn.out kp] at hlk
                    simp only [Option.getD_some] at hlk
                    have hne : (4 * atV l (settle l) i != 4 * atV l (settle l) i) = false := by simp
                    have hz : Aside0 (atV l (settle l) (i + 1) = atV l (settle l) i) := ⟨by rw [hat.out]; unfold szV; rw [if_pos kp]; omega⟩
                    clear hlx hgo
                    go_wp2_with fail
                    go_roundw
                    case rel => exact ⟨i + 1, by omega, by rw [hz.out], by go_num, L0, J0, M0⟩
                    case measure => simp [intOf]; omega
                  · obtain ⟨vv, hvv⟩ : ∃ vv, (get es x.f2).getD 0 = vv := ⟨_, rfl⟩
                    obtain ⟨to_, hto⟩ : ∃ to_, IntKind.i64.wrap (Int.tdiv vv 4) = to_ := ⟨_, rfl⟩
                    have hte : x.f2 ≠ 0 → to_ = whV l (settle l) x.f2 := fun hne => by
                      obtain ⟨e1, e2, e3⟩ := hgo.out hne
                      rw [← hto, ← hvv, e1, Int.tdiv_eq_ediv_of_nonneg (by omega), show 4 * whV l (settle l) x.f2 / 4 = whV l (settle l) x.f2 by omega]
                      exact IntWalk.i64_in _ (by omega)
                    replace hlx := Aside0.mk (hlx (by omega) to_ hte)
                    have hwz : IntKind.i64.wrap (atV l (settle l) i + szV x gi) = atV l (settle l) i + szV x gi := IntWalk.i64_in _ (by omega)
                    replace hvv := Aside0.mk hvv
                    clear hgo hte hsn
                    go_upto_region 23 with (fail)
                    replace kp := Aside0.mk kp
                    refine start_ (n := 20) (S := fun w' => w'.cell? (ad.add (i * 7)) = some (.int .i64 x.f0) ∧ w'.cell? ⟨(ad.add (i * 7)).block, (ad.add (i * 7)).off + 1, none⟩ = some (.int .i64 x.f1.f0) ∧ w'.cell? ⟨(ad.add (i * 7)).block, (ad.add (i * 7)).off + 2, none⟩ = some (.int .i64 x.f1.f1) ∧ w'.cell? ⟨(ad.add (i * 7)).block, (ad.add (i * 7)).off + 3, none⟩ = some (.int .i64 x.f1.f2) ∧ w'.cell? ⟨(ad.add (i * 7)).block, (ad.add (i * 7)).off + 4, none⟩ = some (.int .i64 x.f1.f3) ∧ w'.cell? ⟨(ad.add (i * 7)).block, (ad.add (i * 7)).off + 5, none⟩ = some (.int .i32 x.f1.f4) ∧ w'.cell? ⟨(ad.add (i * 7)).block, (ad.add (i * 7)).off + 6, none⟩ = some (.int .i64 x.f2) ∧ Mp w' mb es) (ds := []) #[false, false, false, false, false, false, false, false, false, false, false, false, false, false, false, false, false, false, false, false] (by kernel_rfl) rfl rfl (⟨a0, a1, a2, a3, a4, a5, a6, M0.out.keep rfl⟩) (fun hHeld => ?_)
                    replace L0 : Aside0 (Below w.heap.size w wr.drew) := ⟨below_drew L0.out⟩
                    replace J0 : Aside0 (Below w1.heap.size w1 wr.drew) := ⟨below_drew J0.out⟩
                    replace M0 : Aside0 (Mp wr.drew mb es) := ⟨M0.out.keep rfl⟩
                    clear a0 a1 a2 a3 a4 a5 a6
                    generalize wr.drew = W5 at *
                    refine pure_ (i := 0) (N := some 123) (v := ?_) (a' := ?_) #[true, false, false, false, false, false, false, false, false, false, false, false, false, false, false, false, false, false, false, false] rfl rfl (by kernel_rfl) (fun _ _ _ h => h) (Or.inl ⟨by rfl, ?_⟩) ?_ ?_
                    rotate_left
                    · intro w'
                      go_simp
                      try with_reducible rfl
                    rotate_left
                    · simp only [Act.put, List.setIfInBounds_toArray, List.set_cons_zero, List.set_cons_succ]
                      rfl
                    refine pure_ (i := 1) (N := some 124) (v := ?_) (a' := ?_) #[true, true, false, false, false, false, false, false, false, false, false, false, false, false, false, false, false, false, false, false] rfl rfl (by kernel_rfl) (fun _ _ _ h => h) (Or.inl ⟨by rfl, ?_⟩) ?_ ?_
                    rotate_left
                    · intro w'
                      go_simp
                      try with_reducible rfl
                    rotate_left
                    · simp only [Act.put, List.setIfInBounds_toArray, List.set_cons_zero, List.set_cons_succ]
                      rfl
                    refine pure_ (i := 2) (N := some 125) (v := ?_) (a' := ?_) #[true, true, true, false, false, false, false, false, false, false, false, false, false, false, false, false, false, false, false, false] rfl rfl (by kernel_rfl) (fun _ _ _ h => h) (Or.inl ⟨by rfl, ?_⟩) ?_ ?_
                    rotate_left
                    · intro w'
                      go_simp
                      try with_reducible rfl
                    rotate_left
                    · simp only [Act.put, List.setIfInBounds_toArray, List.set_cons_zero, List.set_cons_succ]
                      rfl
                    refine pure_ (i := 3) (N := some 126) (v := ?_) (a' := ?_) #[true, true, true, true, false, false, false, false, false, false, false, false, false, false, false, false, false, false, false, false] rfl rfl (by kernel_rfl) (fun _ _ _ h => h) (Or.inl ⟨by rfl, ?_⟩) ?_ ?_
                    rotate_left
                    · intro w'
                      go_simp
                      try with_reducible rfl
                    rotate_left
                    · simp only [Act.put, List.setIfInBounds_toArray, List.set_cons_zero, List.set_cons_succ]
                      rfl
                    refine pure_ (i := 4) (N := some 127) (v := ?_) (a' := ?_) #[true, true, true, true, true, false, false, false, false, false, false, false, false, false, false, false, false, false, false, false] rfl rfl (by kernel_rfl) (fun _ _ _ h => h) (Or.inl ⟨by rfl, ?_⟩) ?_ ?_
                    rotate_left
                    · intro w'
                      go_simp
                      try with_reducible rfl
                    rotate_left
                    · simp only [Act.put, List.setIfInBounds_toArray, List.set_cons_zero, List.set_cons_succ]
                      rfl
                    refine pure_ (i := 6) (N := some 129) (v := ?_) (a' := ?_) #[true, true, true, true, true, false, true, false, false, false, false, false, false, false, false, false, false, false, false, false] rfl rfl (by kernel_rfl) (fun _ _ _ h => h) (Or.inl ⟨by rfl, ?_⟩) ?_ ?_
                    rotate_left
                    · intro w'
                      go_simp
                      try with_reducible rfl
                    rotate_left
                    · simp only [Act.put, List.setIfInBounds_toArray, List.set_cons_zero, List.set_cons_succ]
                      rfl
                    refine pure_ (i := 7) (N := some 130) (v := ?_) (a' := ?_) #[true, true, true, true, true, false, true, true, false, false, false, false, false, false, false, false, false, false, false, false] rfl rfl (by kernel_rfl) (fun _ _ _ h => h) (Or.inl ⟨by rfl, ?_⟩) ?_ ?_
                    rotate_left
                    · intro w'
                      go_simp
                      try with_reducible rfl
                    rotate_left
                    · simp only [Act.put, List.setIfInBounds_toArray, List.set_cons_zero, List.set_cons_succ]
                      rfl
                    refine pure_ (i := 8) (N := some 131) (v := ?_) (a' := ?_) #[true, true, true, true, true, false, true, true, true, false, false, false, false, false, false, false, false, false, false, false] rfl rfl (by kernel_rfl) (fun _ _ _ h => h) (Or.inl ⟨by rfl, ?_⟩) ?_ ?_
                    rotate_left
                    · intro w'
                      go_simp
                      try with_reducible rfl
                    rotate_left
                    · simp only [Act.put, List.setIfInBounds_toArray, List.set_cons_zero, List.set_cons_succ]
                      rfl
                    refine pure_ (i := 9) (N := some 132) (v := ?_) (a' := ?_) #[true, true, true, true, true, false, true, true, true, true, false, false, false, false, false, false, false, false, false, false] rfl rfl (by kernel_rfl) (fun _ _ _ h => h) (Or.inl ⟨by rfl, ?_⟩) ?_ ?_
                    rotate_left
                    · intro w'
                      go_simp
                      try with_reducible rfl
                    rotate_left
                    · simp only [Act.put, List.setIfInBounds_toArray, List.set_cons_zero, List.set_cons_succ]
                      rfl
                    refine pure_ (i := 10) (N := some 133) (v := ?_) (a' := ?_) #[true, true, true, true, true, false, true, true, true, true, true, false, false, false, false, false, false, false, false, false] rfl rfl (by kernel_rfl) (fun _ _ _ h => h) (Or.inl ⟨by rfl, ?_⟩) ?_ ?_
                    rotate_left
                    · intro w'
                      go_simp
                      try with_reducible rfl
                    rotate_left
                    · simp only [Act.put, List.setIfInBounds_toArray, List.set_cons_zero, List.set_cons_succ]
                      rfl
                    refine take_ (i := 5) (N := some 128) (v := ?_) (a' := ?_) #[true, true, true, true, true, true, true, true, true, true, true, false, false, false, false, false, false, false, false, false] rfl rfl (by kernel_rfl) (fun _ _ _ h => h) (Or.inl ⟨by rfl, ?_⟩) hHeld ?_ ?_
                    rotate_left
                    · intro w' s0
                      obtain ⟨s0_, s1_, s2_, s3_, s4_, s5_, s6_, s7_⟩ := s0
                      go_simp
                      try with_reducible rfl
                    rotate_left
                    · simp only [Act.put, List.setIfInBounds_toArray, List.set_cons_zero, List.set_cons_succ]
                      rfl
                    refine take_ (i := 11) (N := some 134) (v := ?_) (a' := ?_) #[true, true, true, true, true, true, true, true, true, true, true, true, false, false, false, false, false, false, false, false] rfl rfl (by kernel_rfl) (fun _ _ _ h => h) (Or.inl ⟨by rfl, ?_⟩) hHeld ?_ ?_
                    rotate_left
                    · intro w' s0
                      obtain ⟨s0_, s1_, s2_, s3_, s4_, s5_, s6_, s7_⟩ := s0
                      go_simp
                      try with_reducible rfl
                    rotate_left
                    · simp only [Act.put, List.setIfInBounds_toArray, List.set_cons_zero, List.set_cons_succ]
                      rfl
                    refine take_ (i := 12) (N := some 135) (v := ?_) (a' := ?_) #[true, true, true, true, true, true, true, true, true, true, true, true, true, false, false, false, false, false, false, false] rfl rfl (by kernel_rfl) (fun _ _ _ h => h) (Or.inl ⟨by rfl, ?_⟩) hHeld ?_ ?_
                    rotate_left
                    · intro w' s0
                      obtain ⟨s0_, s1_, s2_, s3_, s4_, s5_, s6_, s7_⟩ := s0; have hlk := look s7_ x.f2; rw [hvv.out] at hlk
                      go_simp
                      try with_reducible rfl
                    rotate_left
                    · simp only [Act.put, List.setIfInBounds_toArray, List.set_cons_zero, List.set_cons_succ]
                      rfl
                    refine pure_ (i := 13) (N := some 136) (v := ?_) (a' := ?_) #[true, true, true, true, true, true, true, true, true, true, true, true, true, true, false, false, false, false, false, false] rfl rfl (by kernel_rfl) (fun _ _ _ h => h) (Or.inl ⟨by rfl, ?_⟩) ?_ ?_
                    rotate_left
                    · intro w'
                      go_simp
                      try with_reducible rfl
                    rotate_left
                    · simp only [Act.put, List.setIfInBounds_toArray, List.set_cons_zero, List.set_cons_succ]
                      rfl
                    refine one_ (i := 14) (N := some 137) #[true, true, true, true, true, true, true, true, true, true, true, true, true, true, true, false, false, false, false, false] rfl rfl (by kernel_rfl) (by decide) (fun K hK => ?_)
                    refine goes_ Try.func16 (by kernel_rfl) rfl #[.string s, .int .i64 (atV l (settle l) i), agL x, .int .i64 to_] (by rfl) rfl rfl (by (try simp only [List.map_toArray, List.map_cons, List.map_nil]); first | done | rfl) ?_
                    with_reducible refine (hlx.out _).mono ?_
                    rintro e w' ⟨rfl, hb⟩
                    refine ⟨_, rfl, ?_⟩
                    obtain ⟨s0_, s1_, s2_, s3_, s4_, s5_, s6_, s7_⟩ := hHeld
                    have hHeld2 : w'.cell? (ad.add (i * 7)) = some (.int .i64 x.f0) ∧ w'.cell? ⟨(ad.add (i * 7)).block, (ad.add (i * 7)).off + 1, none⟩ = some (.int .i64 x.f1.f0) ∧ w'.cell? ⟨(ad.add (i * 7)).block, (ad.add (i * 7)).off + 2, none⟩ = some (.int .i64 x.f1.f1) ∧ w'.cell? ⟨(ad.add (i * 7)).block, (ad.add (i * 7)).off + 3, none⟩ = some (.int .i64 x.f1.f2) ∧ w'.cell? ⟨(ad.add (i * 7)).block, (ad.add (i * 7)).off + 4, none⟩ = some (.int .i64 x.f1.f3) ∧ w'.cell? ⟨(ad.add (i * 7)).block, (ad.add (i * 7)).off + 5, none⟩ = some (.int .i32 x.f1.f4) ∧ w'.cell? ⟨(ad.add (i * 7)).block, (ad.add (i * 7)).off + 6, none⟩ = some (.int .i64 x.f2) ∧ Mp w' mb es := ⟨(hb.cell (World.block_lt_of_cell? _ _ s0_)).trans s0_, (hb.cell (World.block_lt_of_cell? _ _ s1_)).trans s1_, (hb.cell (World.block_lt_of_cell? _ _ s2_)).trans s2_, (hb.cell (World.block_lt_of_cell? _ _ s3_)).trans s3_, (hb.cell (World.block_lt_of_cell? _ _ s4_)).trans s4_, (hb.cell (World.block_lt_of_cell? _ _ s5_)).trans s5_, (hb.cell (World.block_lt_of_cell? _ _ s6_)).trans s6_, s7_.below hb⟩
                    replace L0 := Aside0.mk (below_step L0.out hb)
                    replace J0 := Aside0.mk (below_step J0.out hb)
                    replace M0 := Aside0.mk (M0.out.below hb)
                    refine hK.out _ _ hHeld2 (fun hHeld => ?_)
                    clear hK K hb hHeld2 s0_ s1_ s2_ s3_ s4_ s5_ s6_ s7_
                    refine norm_ (a' := ?_) ?_ ?_
                    rotate_left
                    · simp only [Act.put, List.setIfInBounds_toArray, List.set_cons_zero, List.set_cons_succ]
                      rfl
                    refine pure_ (i := 15) (N := some 122) (v := ?_) (a' := ?_) #[true, true, true, true, true, true, true, true, true, true, true, true, true, true, true, true, false, false, false, false] rfl rfl (by kernel_rfl) (fun _ _ _ h => h) (Or.inl ⟨by rfl, ?_⟩) ?_ ?_
                    rotate_left
                    · intro w'
                      go_simp
                      try with_reducible rfl
                    rotate_left
                    · simp only [Act.put, List.setIfInBounds_toArray, List.set_cons_zero, List.set_cons_succ]
                      rfl
                    refine pure_ (i := 16) (N := some 138) (v := ?_) (a' := ?_) #[true, true, true, true, true, true, true, true, true, true, true, true, true, true, true, true, true, false, false, false] rfl rfl (by kernel_rfl) (fun _ _ _ h => h) (Or.inl ⟨by rfl, ?_⟩) ?_ ?_
                    rotate_left
                    · intro w'
                      go_simp
                      try with_reducible rfl
                    rotate_left
                    · simp only [Act.put, List.setIfInBounds_toArray, List.set_cons_zero, List.set_cons_succ]
                      rfl
                    refine pure_ (i := 17) (N := some 139) (v := ?_) (a' := ?_) #[true, true, true, true, true, true, true, true, true, true, true, true, true, true, true, true, true, true, false, false] rfl rfl (by kernel_rfl) (fun _ _ _ h => h) (Or.inl ⟨by rfl, ?_⟩) ?_ ?_
                    rotate_left
                    · intro w'
                      go_simp
                      try with_reducible rfl
                    rotate_left
                    · simp only [Act.put, List.setIfInBounds_toArray, List.set_cons_zero, List.set_cons_succ]
                      rfl
                    refine pure_ (i := 18) (N := some 11) (v := ?_) (a' := ?_) #[true, true, true, true, true, true, true, true, true, true, true, true, true, true, true, true, true, true, true, false] rfl rfl (by kernel_rfl) (fun _ _ _ h => h) (Or.inl ⟨by rfl, ?_⟩) ?_ ?_
                    rotate_left
                    · intro w'
                      go_simp
                      try with_reducible rfl
                    rotate_left
                    · simp only [Act.put, List.setIfInBounds_toArray, List.set_cons_zero, List.set_cons_succ]
                      rfl
                    refine pure_ (i := 19) (N := some 12) (v := ?_) (a' := ?_) #[true, true, true, true, true, true, true, true, true, true, true, true, true, true, true, true, true, true, true, true] rfl rfl (by kernel_rfl) (fun _ _ _ h => h) (Or.inl ⟨by rfl, ?_⟩) ?_ ?_
                    rotate_left
                    · intro w'
                      go_simp
                      try with_reducible rfl
                    rotate_left
                    · simp only [Act.put, List.setIfInBounds_toArray, List.set_cons_zero, List.set_cons_succ]
                      rfl
                    refine done_ (by kernel_rfl) ?_
                    go_wp2_with fail
                    go_roundw
                    case rel => exact ⟨i + 1, by omega, by rw [hat.out], by go_num, L0, J0, M0⟩
                    case measure => simp [intOf]; omega
                · obtain rfl : i = l.length := by omega
                  have he : (4 * atV l (settle l) l.length == (s.size : Int)) = true := by rw [hsz]; simp
                  replace hsz := Aside0.mk hsz
                  go_wp2_with (go_at_call 13; (with_reducible refine (cruciblelaw06_awake.calls true _ haw.out).mono ?_); rintro e w5 ⟨rfl, hb5⟩; replace hb5 := Aside0.mk hb5)
                  go_ret
                  exact ⟨rfl, below_step L0.out hb5.out⟩
  · have hst : (asmV l).1 = ⟨#[]⟩ := by
      rw [has] at hcd ⊢
      by_cases c1 : checkV l = 0
      · rw [if_pos c1] at hcd ⊢
        by_cases c2 : 1048576 < 4 * atV l (settle l) l.length
        · rw [if_pos c2]
        · rw [if_neg c2] at hcd; exact absurd rfl hcd
      · rw [if_neg c1]
    rw [hst]
    clear hav has hst
    generalize (asmV l).2 = cd at *
    have hne : (cd != 0) = true := by simpa using hcd
    replace hcd := Aside0.mk hcd
    go_wp2_with (go_at_call 13; (with_reducible refine (cruciblelaw06_awake.calls true _ haw.out).mono ?_); rintro e w5 ⟨rfl, hb5⟩; replace hb5 := Aside0.mk hb5)
    go_ret
    exact ⟨rfl, below_step L0.out hb5.out⟩
end Go.Proofs.Ytdhmnjoceeolcaa.Asm
end
section
namespace Go.Proofs.Ytdhmnjoceeolcaa.asmLeadsUptoRow
open Go.ChangeShapes Go.WideShapes Go.ChangeAt Go.RowKit
open Go.ChangeMaps (open_string shut_string)
set_option linter.unusedVariables false
theorem own : ownKnob Try.prog.godebug = none := by kernel_rfl
theorem laid : laidOutB Try.prog = true := by kernel_rfl
set_option maxRecDepth 100000 in
set_option maxHeartbeats 4000000 in
theorem lifted (os : Os) (started : os.Started) (H : Type) (enc : TypeId × Value → H) (F : Stop.Interp) :
    ReturnsInHanded {} Try.checked os 6 .any ((Rows.OpenSpec.upto Rows.asmLeadsSpec).pre6 enc Try.prog Try.f6 Rows.asmLeadsUptoRow.domain false) (((Rows.OpenSpec.upto Rows.asmLeadsSpec).at F).post enc Try.prog Try.f6 false true false false) := by
  refine returnsInHanded_of_cond (C := Try.checked) (s := Rows.OpenSpec.upto Rows.asmLeadsSpec) (k := Rows.uptoSmall) rfl own started (by kernel_rfl) Try.func6
    (OpenSpec.witness (enc := enc) (C := Try.checked) (s := Rows.OpenSpec.upto Rows.asmLeadsSpec) (k := Rows.uptoSmall) rfl false ⟨#[], #[.agg #[.slice none 0 0, .int .i64 0, .int .i64 0, .int .i64 0, .int .i64 0, .int .i32 0, .int .i64 0, .slice none 0 0]], []⟩ 8 (by kernel_rfl) (by kernel_rfl) (by kernel_rfl)
      (x := ([.agg [.nil, .agg [.lit (.int .i64 0), .lit (.int .i64 0), .lit (.int .i64 0), .lit (.int .i64 0), .lit (.int .i32 0)], .lit (.int .i64 0), .nil]], [], [])) (by kernel_rfl) rfl (by kernel_rfl)) ?_
  intro W base args ds gs before hval0 hW _ hk _
  have hsz : (DataW.weightsEach Try.prog (Try.f6.params.toList ++ Rows.asmLeadsSpec.plain.varTypes Try.prog) (ds ++ gs)).all (· ≤ Asm.capB) = true := Asm.small (by kernel_rfl) hk
  have hval : ∀ (j : Nat) t v, Try.f6.params[j]? = some t → args[j]? = some v → Value.okWide Try.prog W .any base t v := hval0
  have hW' := hW
  obtain ⟨p, q, hA0, hV, rfl, hfz, hnd⟩ := hW
  have hA : DataW.TrodAll enc Try.prog W 0 (fun _ => true) true Try.f6.params.toList args.toList ds p := hA0
  rw [Try.params6] at hA hval hsz
  obtain ⟨v0, vs0, d0, ds0, p0, q0, hargs, rfl, rfl, h0, r0⟩ := trodAll_cons hA
  obtain ⟨rfl, rfl, rfl⟩ := trodAll_nil r0
  obtain rfl : args = #[v0] := by cases args; simp_all
  obtain ⟨rfl, rfl⟩ := trodVars_none hV
  have hlt : ∀ x ∈ p0, x.block < W.heap.size := fun x hx => by simpa using hW'.lt x (by simpa using hx)
  have hlt0 : ∀ x ∈ p0, x.block < W.heap.size := fun x hx => hlt x (by simp [hx])
  have k0 := h0
  have ok0 := hval 0 26 v0 rfl rfl
  clear hA0 hval0
  have s0 : ∀ W', Below W.heap.size W W' → _ := fun W' bel => Below.trod laid (t := 26) (by kernel_rfl) (of_decide_eq_true (by kernel_rfl)) k0 bel hlt0
  clear k0
  obtain ⟨cs0, x0, rfl, hK0, g0⟩ := Opn.arg_struct Try.underlying26 OpnF.o26 ok0 h0 (Opn.weight (j := 0) hsz rfl rfl)
  obtain ⟨A0, c0, B0, e0, rfl, lA0, hA0, lB0, hB0⟩ := OpnF.k26_open hK0
  have gb0 : x0.f0.length + x0.f3.length ≤ 38347922 := by have h1 := g0.1.1; have h2 := g0.2.2.2.1; omega
  refine ((Asm.leads_law x0.f1 x0.f2 hA0 lA0 hB0 lB0 gb0)).mono fun e W' ⟨he, bel⟩ => ?_
  subst he
  exact ⟨_, rfl, _, _, _, [], _, [], hW', trodAll_mk1 (shut_bool Try.underlying4 _), (trodAll_cons_mk (s0 W' bel) trodAll_mk0), rfl, bel.frame _, fun h => by cases h⟩
theorem proved : Rows.AsmLeadsUptoSaid :=
  OpenClaim.holds_of_cond 6 Try.f6 rfl rfl rfl rfl rfl rfl rfl ⟨rfl, rfl, rfl, rfl, rfl⟩ rfl rfl rfl rfl rfl (by kernel_rfl) Try.func6 (by kernel_rfl)
    (of_decide_eq_true (by kernel_rfl)) (by unfold Func.isWrapper; first | (rw [if_pos (by decide +kernel)]; kernel_rfl) | (rw [if_neg (by decide +kernel)]; exact ⟨rfl, rfl⟩))
    (fun os started H enc _ F => lifted os started H enc F)
#print axioms proved
end Go.Proofs.Ytdhmnjoceeolcaa.asmLeadsUptoRow
namespace Go.Proofs.Ytdhmnjoceeolcaa
/-- The row, under a short name, for the claim. -/
theorem asmLeads_holds : Rows.AsmLeadsUptoSaid := asmLeadsUptoRow.proved
end Go.Proofs.Ytdhmnjoceeolcaa
end
