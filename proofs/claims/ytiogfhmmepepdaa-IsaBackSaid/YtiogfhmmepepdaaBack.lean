/- Instructions are told back by their words, words by their instructions, and unlike ones have unlike words: the law out of its walks. -/
import Derived.Test.YtiogfhmmepepdaaWalksBack
namespace Go.Proofs.Ytiogfhmmepepdaa.Back
open Go.RowKit Go.Proofs.Ytiogfhmmepepdaa.PIsaDecodes Go.Proofs.Ytiogfhmmepepdaa.FactsDec Go.Proofs.Ytiogfhmmepepdaa.Walks1 Go.Proofs.Ytiogfhmmepepdaa.WalksBack Go.Proofs.YtiogfhmmepepdaaW.PrintWords
set_option linter.unusedVariables false

/-- Of any instruction: it has no word, or one, and is read back out of it. -/
theorem one (op d a b i : Int) : isa_Encode.f 7 op d a b i = some (0, 1) ∨ ∃ v, isa_Encode.f 7 op d a b i = some (v, 0) ∧ isa_Decode.f 10 v = some (op, d, a, b, i, 0) := by
  obtain ⟨p, sd, sa, sb, bits, sign, is, lo, hi, h⟩ := cl op
  by_cases hok : ok d a b i sd sa sb is lo hi = true
  · obtain ⟨k0, k1, k2, k3⟩ := dec_E d a b i h hok
    refine .inr ⟨_, isaEnc 0 d a b i h hok, ?_⟩
    have h' := h
    rw [← k2] at h'
    have := isaDec 0 _ k0 k1 h'
    rw [this, k2, k3]
  · exact .inl (isaEncNo 0 d a b i h hok)

/-- Of any word: it is none, or one's. -/
theorem other (u : Int) (u0 : 0 ≤ u) (u1 : u < 4294967296) : isa_Decode.f 10 u = some (0, 0, 0, 0, 0, 1) ∨ ∃ z1 z2 z3 z4 z5, isa_Decode.f 10 u = some (z1, z2, z3, z4, z5, 0) ∧ isa_Encode.f 7 z1 z2 z3 z4 z5 = some (u, 0) := by
  obtain ⟨p, sd, sa, sb, bits, sign, is, lo, hi, h⟩ := cl (u / 16777216)
  have hd := isaDec 0 u u0 u1 h
  unfold dec at hd
  split at hd
  · rename_i hh
    refine .inr ⟨_, _, _, _, _, hd, ?_⟩
    rw [isaEnc 0 _ _ _ _ h hh.1, hh.2]
  · exact .inl hd

theorem IsaBack (x1 x2 x3 x4 x5 y1 y2 y3 y4 y5 u : Int) (w : World) (u0 : 0 ≤ u) (u1 : u < 4294967296) :
    Calls Try.prog 5 #[.agg #[.int .i64 x1, .int .i64 x2, .int .i64 x3, .int .i64 x4, .int .i32 x5], .agg #[.int .i64 y1, .int .i64 y2, .int .i64 y3, .int .i64 y4, .int .i32 y5], .int .u32 u] w fun e w' => e = .returned (.bool true) ∧ Below w.heap.size w w' := by
  have hu := other u u0 u1
  have hyy : ∃ b f, isa_Encode.f 7 y1 y2 y3 y4 y5 = some (b, f) := by
    rcases one y1 y2 y3 y4 y5 with h | ⟨v, h, _⟩ <;> exact ⟨_, _, h⟩
  rcases one x1 x2 x3 x4 x5 with hx | ⟨a, hx, hxd⟩
  · obtain ⟨b, f, hy⟩ := hyy
    rcases hu with hu | ⟨z1, z2, z3, z4, z5, hu, hz⟩
    · exact b1n x1 x2 x3 x4 x5 y1 y2 y3 y4 y5 0 b f u w ⟨hx⟩ ⟨hy⟩ ⟨hu⟩
    · exact b1y x1 x2 x3 x4 x5 y1 y2 y3 y4 y5 z1 z2 z3 z4 z5 0 b f u w ⟨hx⟩ ⟨hy⟩ ⟨hu⟩ ⟨hz⟩
  · rcases one y1 y2 y3 y4 y5 with hy | ⟨b, hy, hyd⟩
    · rcases hu with hu | ⟨z1, z2, z3, z4, z5, hu, hz⟩
      · exact b2n x1 x2 x3 x4 x5 y1 y2 y3 y4 y5 a 0 u w ⟨hx⟩ ⟨hy⟩ ⟨hxd⟩ ⟨hu⟩
      · exact b2y x1 x2 x3 x4 x5 y1 y2 y3 y4 y5 z1 z2 z3 z4 z5 a 0 u w ⟨hx⟩ ⟨hy⟩ ⟨hxd⟩ ⟨hu⟩ ⟨hz⟩
    · by_cases hab : a = b
      · subst hab
        rw [hxd] at hyd
        simp only [Option.some.injEq, Prod.mk.injEq] at hyd
        obtain ⟨rfl, rfl, rfl, rfl, rfl, _⟩ := hyd
        rcases hu with hu | ⟨z1, z2, z3, z4, z5, hu, hz⟩
        · exact b3n x1 x2 x3 x4 x5 a a u w ⟨hx⟩ ⟨hy⟩ ⟨hxd⟩ ⟨hu⟩
        · exact b3y x1 x2 x3 x4 x5 z1 z2 z3 z4 z5 a a u w ⟨hx⟩ ⟨hy⟩ ⟨hxd⟩ ⟨hu⟩ ⟨hz⟩
      · have hne : (x1 == y1 && (x2 == y2 && (x3 == y3 && (x4 == y4 && x5 == y5)))) = false := by
          rw [Bool.eq_false_iff]
          intro h
          simp only [Bool.and_eq_true, beq_iff_eq] at h
          obtain ⟨rfl, rfl, rfl, rfl, rfl⟩ := h
          rw [hx] at hy
          simp only [Option.some.injEq, Prod.mk.injEq] at hy
          exact hab hy.1
        rcases hu with hu | ⟨z1, z2, z3, z4, z5, hu, hz⟩
        · exact b4n x1 x2 x3 x4 x5 y1 y2 y3 y4 y5 a b u w ⟨hx⟩ ⟨hy⟩ ⟨hxd⟩ ⟨hu⟩ (beq_eq_false_iff_ne.2 hab) hne
        · exact b4y x1 x2 x3 x4 x5 y1 y2 y3 y4 y5 z1 z2 z3 z4 z5 a b u w ⟨hx⟩ ⟨hy⟩ ⟨hxd⟩ ⟨hu⟩ ⟨hz⟩ (beq_eq_false_iff_ne.2 hab) hne

end Go.Proofs.Ytiogfhmmepepdaa.Back
