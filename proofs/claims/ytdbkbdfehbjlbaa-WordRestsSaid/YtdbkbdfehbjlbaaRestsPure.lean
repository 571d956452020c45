/- The arithmetic behind: quotients and rests of words of 32 bits, with sign and without. -/
import Derived.RowKit
namespace Go.Proofs.Ytdbkbdfehbjlbaa.RestsPure
open Go.RowKit (wrap32 wrap64)

theorem w32 (a : Int) : -2147483648 ≤ wrap32 a ∧ wrap32 a ≤ 2147483647 ∧ ∃ k, a = wrap32 a + 4294967296 * k := by
  unfold wrap32
  exact ⟨by omega, by omega, (a + 2147483648) / 4294967296, by omega⟩

theorem w64 (a : Int) (h0 : -9223372036854775808 ≤ a) (h1 : a ≤ 9223372036854775807) : wrap64 a = a := by
  unfold wrap64; omega

theorem back32 (m : Int) (h0 : -2147483648 ≤ m) (h1 : m ≤ 2147483647) : wrap32 (m % 4294967296) = m := by
  unfold wrap32; omega

theorem modk (m : Int) : ∃ k, m % 4294967296 = m + 4294967296 * k := ⟨-(m / 4294967296), by omega⟩

/-- What is told of a quotient t and a rest m, both taken as words. -/
theorem back (a b X Y t m k l : Int) (h0 : 0 ≤ a) (h1 : a ≤ 4294967295) (ha : a = X + 4294967296 * k) (hb : b = Y + 4294967296 * l) (h : Y * t + m = X) :
    ((t % 4294967296) * b + m % 4294967296) % 4294967296 = a := by
  obtain ⟨i, hi⟩ := modk t
  obtain ⟨j, hj⟩ := modk m
  have e : (t % 4294967296) * b + m % 4294967296 = a + 4294967296 * (t * l + i * Y + i * 4294967296 * l + j - k) := by
    rw [hi, hj, hb, ha, ← h]
    simp only [Int.add_mul, Int.mul_add, Int.mul_sub]
    rw [Int.mul_comm t Y]
    have c1 : t * (4294967296 * l) = 4294967296 * (t * l) := by rw [← Int.mul_assoc, Int.mul_comm t, Int.mul_assoc]
    have c2 : 4294967296 * i * Y = 4294967296 * (i * Y) := by rw [Int.mul_assoc]
    have c3 : 4294967296 * i * (4294967296 * l) = 4294967296 * (i * 4294967296 * l) := by simp only [Int.mul_assoc]
    rw [c1, c2, c3]
    omega
  rw [e, Int.add_mul_emod_self_left]
  omega

theorem small (X Y : Int) (hy : Y ≠ 0) (hx0 : -2147483648 ≤ X) (hx1 : X ≤ 2147483647) (hy0 : -2147483648 ≤ Y) (hy1 : Y ≤ 2147483647) :
    -2147483648 ≤ X.tdiv Y ∧ X.tdiv Y ≤ 2147483648 ∧ -2147483648 < X.tmod Y ∧ X.tmod Y < 2147483648 ∧ (X.tmod Y).natAbs < Y.natAbs ∧ (0 ≤ X → 0 ≤ X.tmod Y) ∧ (X ≤ 0 → X.tmod Y ≤ 0) := by
  have e := Int.natAbs_tmod X Y
  have hlt : X.natAbs % Y.natAbs < Y.natAbs := Nat.mod_lt _ (by omega)
  have hd : (X.tdiv Y).natAbs = X.natAbs / Y.natAbs := Int.natAbs_tdiv X Y
  have hle : X.natAbs / Y.natAbs ≤ X.natAbs := Nat.div_le_self _ _
  refine ⟨by omega, by omega, by omega, by omega, by omega, fun h => Int.tmod_nonneg Y h, fun h => ?_⟩
  have := Int.tmod_nonneg Y (show 0 ≤ -X by omega)
  rw [Int.neg_tmod] at this
  omega

theorem squares (m Y : Int) (h : m.natAbs < Y.natAbs) : m * m < Y * Y := by
  have h1 : m * m = ((m.natAbs * m.natAbs : Nat) : Int) := (Int.natAbs_mul_self).symm
  have h2 : Y * Y = ((Y.natAbs * Y.natAbs : Nat) : Int) := (Int.natAbs_mul_self).symm
  rw [h1, h2]
  have : m.natAbs * m.natAbs < Y.natAbs * Y.natAbs := Nat.mul_self_lt_mul_self h
  omega

theorem squareLe (m : Int) (h0 : -2147483648 ≤ m) (h1 : m ≤ 2147483648) : 0 ≤ m * m ∧ m * m ≤ 4611686018427387904 := by
  have h2 : m * m = ((m.natAbs * m.natAbs : Nat) : Int) := (Int.natAbs_mul_self).symm
  have : m.natAbs * m.natAbs ≤ 2147483648 * 2147483648 := Nat.mul_le_mul (by omega) (by omega)
  omega

/-- All that the law asks of two words, the second one not 0. -/
theorem all (a b : Int) (a0 : 0 ≤ a) (a1 : a ≤ 4294967295) (b0 : 0 ≤ b) (b1 : b ≤ 4294967295) (hb : b ≠ 0) (q r v s : Int)
    (hq : q = (wrap64 (Int.tdiv (wrap64 (wrap32 a)) (wrap64 (wrap32 b)))) % 4294967296) (hr : r = (Int.tmod (wrap64 (wrap32 a)) (wrap64 (wrap32 b))) % 4294967296)
    (hv : v = (Int.tdiv a b) % 4294967296) (hs : s = Int.tmod a b) :
    (q * b + r) % 4294967296 = a ∧ (v * b + s) % 4294967296 = a ∧ ¬ b ≤ s ∧ (wrap64 ((wrap64 (wrap32 r)) * (wrap64 (wrap32 r)))) < (wrap64 ((wrap64 (wrap32 b)) * (wrap64 (wrap32 b)))) ∧
      (wrap64 (wrap32 r) = 0 ∨ (wrap64 (wrap32 r) ≠ 0 ∧ (wrap64 (wrap32 r) < 0 ↔ wrap32 a < 0))) := by
  obtain ⟨x0, x1, k, hk⟩ := w32 a
  obtain ⟨y0, y1, l, hl⟩ := w32 b
  have hy : wrap32 b ≠ 0 := by unfold wrap32; omega
  rw [w64 (wrap32 a) (by omega) (by omega), w64 (wrap32 b) (by omega) (by omega)] at hq hr
  rw [w64 (wrap32 b) (by omega) (by omega)]
  generalize wrap32 a = X at *
  generalize wrap32 b = Y at *
  obtain ⟨t0, t1, m0, m1, mlt, mp, mn⟩ := small X Y hy x0 x1 y0 y1
  have hdm := Int.mul_tdiv_add_tmod X Y
  rw [w64 _ (by omega) (by omega)] at hq
  have hs' : s = a % b := by rw [hs, Int.tmod_eq_emod_of_nonneg a0]
  have hv' : Int.tdiv a b = a / b := Int.tdiv_eq_ediv_of_nonneg a0
  have hsb : a % b < b := Int.emod_lt_of_pos a (by omega)
  have hsn : 0 ≤ a % b := Int.emod_nonneg a hb
  have hdn : b * (a / b) + a % b = a := Int.mul_ediv_add_emod a b
  have hw : wrap32 r = X.tmod Y := by rw [hr]; exact back32 _ (by omega) (by omega)
  rw [hw, w64 (X.tmod Y) (by omega) (by omega)]
  have sq := squares _ _ mlt
  obtain ⟨q0, q1⟩ := squareLe (X.tmod Y) (by omega) (by omega)
  obtain ⟨p0, p1⟩ := squareLe Y (by omega) (by omega)
  refine ⟨?_, ?_, by omega, ?_, ?_⟩
  · rw [hq, hr]; exact back a b X Y _ _ k l a0 a1 hk hl hdm
  · have := back a b a b (a / b) (a % b) 0 0 a0 a1 (by omega) (by omega) hdn
    rw [hv, hs', hv']
    rw [Int.emod_eq_of_lt (a := a % b) hsn (by omega)] at this
    exact this
  · rw [w64 _ (by omega) (by omega), w64 _ (by omega) (by omega)]; exact sq
  · by_cases h : X.tmod Y = 0
    · exact .inl h
    · exact .inr ⟨h, ⟨fun hm => Int.not_le.1 fun hx => absurd (mp hx) (by omega), fun hx => by have := mn (by omega); omega⟩⟩

end Go.Proofs.Ytdbkbdfehbjlbaa.RestsPure
