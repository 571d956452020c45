/- crucibleref05.number: four bytes of a text as a number. -/
import Derived.Test.YtbalpmpaccfpiaaWrite
import Derived.IntWalk
namespace Go.Proofs.Ytbalpmpaccfpiaa.Number
open Go.RowKit Go.Proofs.Ytbalpmpaccfpiaa.PImageReads Go.Proofs.YtbalpmpaccfpiaaW.PrintWords Go.Proofs.YtbalpmpaccfpiaaW.PrintLast Go.Proofs.YtbalpmpaccfpiaaW.PrintMore
set_option linter.unusedVariables false
set_option linter.unusedSimpArgs false

/-- Four bytes from a place on, the highest first: so many of them. -/
def part (s : ByteArray) (a : Int) : Nat → Int
  | 0 => 0
  | k + 1 => part s a k * 256 + bt s (a + (3 - (k : Int)))
/-- The word at a place. -/
def W (s : ByteArray) (a : Int) : Int := part s a 4
theorem part_range (s : ByteArray) (a : Int) : ∀ k, k ≤ 4 → 0 ≤ part s a k ∧ (k ≤ 3 → part s a k ≤ 16777215) ∧ part s a k ≤ 4294967295
  | 0, _ => by simp [part]
  | 1, _ => by have := bt_range s (a + 3); simp [part]; omega
  | 2, _ => by have := bt_range s (a + 3); have := bt_range s (a + (3 - 1)); simp [part] at *; omega
  | 3, _ => by have := bt_range s (a + 3); have := bt_range s (a + (3 - 1)); have := bt_range s (a + (3 - 2)); simp [part] at *; omega
  | 4, _ => by have := bt_range s (a + 3); have := bt_range s (a + (3 - 1)); have := bt_range s (a + (3 - 2)); have := bt_range s (a + (3 - 3)); simp [part] at *; omega
  | k + 5, h => by omega
theorem W_range (s : ByteArray) (a : Int) : 0 ≤ W s a ∧ W s a ≤ 4294967295 := ⟨(part_range s a 4 (by omega)).1, (part_range s a 4 (by omega)).2.2⟩
theorem W_eq (s : ByteArray) (a : Int) : W s a = bt s a + bt s (a + 1) * 256 + bt s (a + 2) * 65536 + bt s (a + 3) * 16777216 := by
  simp only [W, part]
  rw [show a + (3 - ((3 : Nat) : Int)) = a by omega, show a + (3 - ((2 : Nat) : Int)) = a + 1 by omega, show a + (3 - ((1 : Nat) : Int)) = a + 2 by omega, show a + (3 - ((0 : Nat) : Int)) = a + 3 by omega]
  omega

set_option maxHeartbeats 4000000 in
set_option maxRecDepth 100000 in
theorem number (s : ByteArray) (a : Int) (w : World) (h0 : 0 ≤ a) (h1 : a + 4 ≤ s.size) (hs : s.size ≤ 9223372036854775807) :
    Calls Try.prog 16 #[.string s, .int .i64 a] w fun e w' => e = .returned (.int .i64 (W s a)) ∧ w = w' := by
  go_enter Try.func16, Try.ntmps16
  go_wp2
  go_loop [5, 6] (fun v i => ∃ (k : Nat) (p m : Int), k ≤ 4 ∧ v = .int .i64 p ∧ i = .int .i64 m ∧ Hid (p = part s a k) ∧ Hid (m = 3 - (k : Int))) (fun _ i => (intOf i + 1).toNat)
  case atStart => exact ⟨0, 0, 3, by omega, rfl, rfl, rfl, rfl⟩
  case round =>
    obtain ⟨k, p, m, hk, rfl, rfl, hp, hm⟩ := hrel
    have hr := part_range s a k hk
    rw [← hp.out] at hr
    obtain ⟨r0, r1, r2⟩ := hr
    have hm0 : m = 3 - (k : Int) := hm.out
    by_cases hlt : k < 4
    · have m0 : 0 ≤ m := by omega
      have m1 : m ≤ 3 := by omega
      have r3 : p ≤ 16777215 := r1 (by omega)
      clear r1 hm0
      have e0 : 0 ≤ a + m := by omega
      have e1 : a + m < (s.size : Int) := by omega
      have hx := bt_at s (a + m)
      have hbr := bt_range s (a + m)
      have q0 := eq_true e0
      have q1 := eq_true e1
      go_wp2
      go_round
      case rel =>
        refine ⟨k + 1, _, _, by omega, rfl, rfl, ?_, ?_⟩
        · show _ = _
          simp only [part, hp.out, hm.out]
        · show _ = _
          rw [hm.out]; omega
      case measure => simp [intOf]; omega
    · obtain rfl : k = 4 := by omega
      obtain rfl : m = -1 := by omega
      clear hm0
      go_wp2
      go_ret
      exact ⟨by rw [hp.out]; rfl, rfl⟩
end Go.Proofs.Ytbalpmpaccfpiaa.Number
