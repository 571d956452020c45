/- Any operation of any two words tells just what the reference tells, or its trap. -/
import Derived.Test.YtdbkbdfehbjlbaaPWordAlusx2
import Derived.OpenShut
namespace Go.Proofs.Ytdbkbdfehbjlbaa.Pure
open Go.RowKit Go.Proofs.Ytdbkbdfehbjlbaa.PWordAlus Go.Proofs.YtdbkbdfehbjlbaaW.PrintWords Go.Proofs.YtdbkbdfehbjlbaaW.PrintLast

theorem wrap_mod32 (b : Int) (h : 0 ≤ b) : IntKind.u64.wrap (Int.tmod b 32) = Int.tmod b 32 := by
  rw [Int.tmod_eq_emod_of_nonneg h]
  simp only [IntKind.wrap, IntKind.bits, IntKind.signed]
  simp
  omega

theorem divides_eq (a b c : Int) : crucibleref01_divides.f a b c = word_divided.f a b c := rfl
theorem one_eq (b : Bool) : crucibleref01_one.f b = word_truth.f b := rfl

theorem truth_some (b : Bool) : ∃ r, word_truth.f b = some r := by cases b <;> exact ⟨_, rfl⟩

theorem awake (k : Nat) : cruciblelaw01_awake.f (k + 1) = some true := by
  have h : word_divided.f 4 4294967289 2 = some 4294967293 := by decide +kernel
  simp [cruciblelaw01_awake.f, word_Alu.f, word_Alu.j0, h]

theorem divided_some (a b c : Int) (h0 : 0 ≤ c) (h1 : c ≤ 4294967295) (hc : c ≠ 0) : ∃ r, word_divided.f a b c = some r := by
  have hw : wrap64 (wrap32 c) ≠ 0 := by unfold wrap64 wrap32; omega
  unfold word_divided.f
  rw [if_neg hc, if_neg hw]
  split
  · exact ⟨_, rfl⟩
  · split
    · exact ⟨_, rfl⟩
    · split <;> exact ⟨_, rfl⟩

/-- The two tell the same, and something. -/
theorem alu_eq (k : Nat) (a b c : Int) (hc0 : 0 ≤ c) (hc1 : c ≤ 4294967295) :
    word_Alu.f (k + 1) a b c = crucibleref01_Alu.f a b c ∧ ∃ r, crucibleref01_Alu.f a b c = some r := by
  have hm := wrap_mod32 c hc0
  have hm0 : 0 ≤ Int.tmod c 32 := by rw [Int.tmod_eq_emod_of_nonneg hc0]; omega
  unfold word_Alu.f crucibleref01_Alu.f crucibleref01_Traps.f
  simp only [word_Alu.j0, word_compared.f, hm, if_pos hm0, divides_eq, one_eq]
  by_cases h1 : a = 1
  · subst h1; exact ⟨by simp, by simp⟩
  by_cases h2 : a = 2
  · subst h2; exact ⟨by simp, by simp⟩
  by_cases h3 : a = 3
  · subst h3; exact ⟨by simp, by simp⟩
  by_cases h4 : a = 4 ∨ a = 5 ∨ a = 6 ∨ a = 7
  · by_cases hc : c = 0
    · rcases h4 with rfl | rfl | rfl | rfl <;> simp [hc]
    · obtain ⟨r, hr⟩ := divided_some a b c hc0 hc1 hc
      rcases h4 with rfl | rfl | rfl | rfl <;> simp [hc, hr]
  · have e4 : a ≠ 4 := fun h => h4 (by simp [h])
    have e5 : a ≠ 5 := fun h => h4 (by simp [h])
    have e6 : a ≠ 6 := fun h => h4 (by simp [h])
    have e7 : (a == 7) = false := by rw [beq_eq_false_iff_ne]; exact fun h => h4 (by simp [h])
    simp only [if_neg h1, if_neg h2, if_neg h3, if_neg e4, if_neg e5, if_neg e6, e7]
    by_cases h8 : a = 8
    · subst h8; exact ⟨by simp, by simp⟩
    by_cases h9 : a = 9
    · subst h9; exact ⟨by simp, by simp⟩
    by_cases h10 : a = 10
    · subst h10; exact ⟨by simp, by simp⟩
    by_cases h11 : a = 11
    · subst h11; exact ⟨by simp, by simp⟩
    by_cases h12 : a = 12
    · subst h12; exact ⟨by simp, by simp⟩
    by_cases h13 : a = 13
    · subst h13; exact ⟨by simp, by simp⟩
    simp only [if_neg h8, if_neg h9, if_neg h10, if_neg h11, if_neg h12, if_neg h13]
    obtain ⟨t1, e1⟩ := truth_some (b == c)
    obtain ⟨t2, e2⟩ := truth_some (b != c)
    obtain ⟨t3, e3⟩ := truth_some (decide (wrap32 b < wrap32 c))
    obtain ⟨t4, e4⟩ := truth_some (decide (b < c))
    obtain ⟨t5, e5⟩ := truth_some (decide (wrap32 b ≤ wrap32 c))
    obtain ⟨t6, e6⟩ := truth_some (decide (b ≤ c))
    simp only [e1, e2, e3, e4, e5, e6, Option.bind_some]
    by_cases h14 : a = 14
    · subst h14; exact ⟨by simp, by simp⟩
    by_cases h15 : a = 15
    · subst h15; exact ⟨by simp, by simp⟩
    by_cases h16 : a = 16
    · subst h16; exact ⟨by simp, by simp⟩
    by_cases h17 : a = 17
    · subst h17; exact ⟨by simp, by simp⟩
    by_cases h18 : a = 18
    · subst h18; exact ⟨by simp, by simp⟩
    by_cases h19 : a = 19
    · subst h19; exact ⟨by simp, by simp⟩
    simp [if_neg h14, if_neg h15, if_neg h16, if_neg h17, if_neg h18, if_neg h19]

theorem WordAlus : cruciblelaw01_WordAlus.Pure := by
  intro a b c _ _ wc
  obtain ⟨hc0, hc1⟩ := Go.bounds_u32 wc
  refine ⟨1, ?_⟩
  obtain ⟨he, r, hr⟩ := alu_eq 0 a b c hc0 hc1
  unfold cruciblelaw01_WordAlus.f
  rw [he, hr]
  simp only [Option.bind_some, if_true]
  rw [awake 0]
  rfl

end Go.Proofs.Ytdbkbdfehbjlbaa.Pure
