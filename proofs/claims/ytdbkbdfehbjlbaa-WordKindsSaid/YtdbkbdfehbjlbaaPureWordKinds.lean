/- Words as types have them, common types, and what is said of operations: all as the reference tells it, of any numbers. -/
import Derived.Test.YtdbkbdfehbjlbaaPWordKindsx2
import Derived.OpenShut
import Derived.Laws.BitsAllLaws
namespace Go.Proofs.Ytdbkbdfehbjlbaa.Pure
open Go.RowKit Go.Proofs.Ytdbkbdfehbjlbaa.PWordKinds Go.Proofs.YtdbkbdfehbjlbaaW.PrintWords Go.Proofs.YtdbkbdfehbjlbaaW.PrintLast

theorem awakeKinds (k : Nat) : cruciblelaw01_awake.f (k + 1) = some true := by
  have h : word_divided.f 4 4294967289 2 = some 4294967293 := by decide +kernel
  simp [cruciblelaw01_awake.f, word_Alu.f, word_Alu.j0, h]

theorem conv_eq (a b : Int) (h0 : 0 ≤ b) (h1 : b ≤ 4294967295) : word_Conv.f a b = crucibleref01_Conv.f a b := by
  unfold word_Conv.f crucibleref01_Conv.f
  rw [u32_and b 255 h0 (by omega) (by omega) (by omega), Int.tmod_eq_emod_of_nonneg h0]
  have : (b.toNat &&& (255 : Int).toNat : Nat) = b.toNat % 256 := nat_mask8 b.toNat
  rw [this]
  split
  · congr 1; omega
  · rfl

theorem conv_some (a b : Int) : ∃ r, crucibleref01_Conv.f a b = some r := by
  unfold crucibleref01_Conv.f
  split <;> exact ⟨_, rfl⟩

theorem common_some (a b : Int) : ∃ r, word_Common.f a b = some r := by
  unfold word_Common.f
  split
  · exact ⟨_, rfl⟩
  · split <;> exact ⟨_, rfl⟩

theorem unsigned_some (a : Int) : ∃ r, word_Unsigned.f a = some r := by
  unfold word_Unsigned.f
  repeat' split
  all_goals exact ⟨_, rfl⟩

theorem commutes_some (a : Int) : ∃ r, word_Commutes.f a = some r := by
  unfold word_Commutes.f
  repeat' split
  all_goals exact ⟨_, rfl⟩

theorem traps_eq (a : Int) : word_Traps.f a = crucibleref01_Traps.f a := by
  unfold word_Traps.f crucibleref01_Traps.f
  by_cases h : a = 7
  · subst h; rfl
  · have e : (a == 7) = false := beq_eq_false_iff_ne.2 h
    rw [if_neg h, e]

theorem traps_some (a : Int) : ∃ r, crucibleref01_Traps.f a = some r := by
  unfold crucibleref01_Traps.f
  repeat' split
  all_goals exact ⟨_, rfl⟩

theorem WordKinds : cruciblelaw01_WordKinds.Pure := by
  intro x a b wx _ _
  obtain ⟨h0, h1⟩ := Go.bounds_u32 wx
  refine ⟨1, ?_⟩
  obtain ⟨r1, e1⟩ := conv_some a x
  obtain ⟨r2, e2⟩ := common_some a b
  obtain ⟨r3, e3⟩ := unsigned_some a
  obtain ⟨r4, e4⟩ := commutes_some b
  obtain ⟨r5, e5⟩ := traps_some b
  have e2' : crucibleref01_Common.f a b = some r2 := e2
  have e3' : crucibleref01_Unsigned.f a = some r3 := e3
  have e4' : crucibleref01_Commutes.f b = some r4 := e4
  unfold cruciblelaw01_WordKinds.f
  rw [conv_eq a x h0 h1, traps_eq, e1, e2, e3, e4, e5, e2', e3', e4']
  simp [awakeKinds 0]

end Go.Proofs.Ytdbkbdfehbjlbaa.Pure
