/- Any bytes at all are read as just their image, or as none: both ways. -/
import Derived.Test.YtbalpmpaccfpiaaRead
import Derived.Test.YtbalpmpaccfpiaaRefRead
import Derived.Test.YtbalpmpaccfpiaaReads
namespace Go.Proofs.Ytbalpmpaccfpiaa.Law2
open Go.RowKit Go.Proofs.Ytbalpmpaccfpiaa.PImageReads Go.Proofs.Ytbalpmpaccfpiaa.Number Go.Proofs.Ytbalpmpaccfpiaa.Write Go.Proofs.Ytbalpmpaccfpiaa.Law1 Go.Proofs.YtbalpmpaccfpiaaW.PrintWords Go.Proofs.YtbalpmpaccfpiaaW.PrintLast Go.Proofs.YtbalpmpaccfpiaaW.PrintMore
set_option linter.unusedVariables false
set_option linter.unusedSimpArgs false

/-- A reading's answer, as a value. -/
def res (x1 x2 : ByteArray) (x3 x4 x5 x6 : Int) : Ending := .returned (.tuple #[.agg #[.string x1, .string x2, .int .i64 x3, .int .i64 x4, .int .i64 x5], .int .i64 x6])
/-- Is it so read, either way? -/
def Read2 (s x1 x2 : ByteArray) (x3 x4 x5 x6 : Int) : Prop :=
  (∀ w, Calls Try.prog 9 #[.string s] w fun e w' => e = res x1 x2 x3 x4 x5 x6 ∧ Below w.heap.size w w') ∧ (∀ w, Calls Try.prog 10 #[.string s] w fun e w' => e = res x1 x2 x3 x4 x5 x6 ∧ Below w.heap.size w w')

/-- What both answer of an image, one of its own for each. -/
noncomputable def told (C D : ByteArray) (g e f : Int) : ByteArray × Int :=
  if h : C.size ≤ 9223372036854775807 ∧ D.size ≤ 9223372036854775807 then ans C D g e f (Classical.choose (both C D g e f h.1 h.2)) else (ByteArray.empty, 0)
theorem told_both (C D : ByteArray) (g e f : Int) (hC : C.size ≤ 9223372036854775807) (hD : D.size ≤ 9223372036854775807) :
    (∀ w, Calls Try.prog 6 #[.agg #[.string C, .string D, .int .i64 g, .int .i64 e, .int .i64 f]] w fun x w' => x = .returned (.tuple #[.string (told C D g e f).1, .int .i64 (told C D g e f).2]) ∧ Below w.heap.size w w') ∧
    (∀ w, Calls Try.prog 7 #[.agg #[.string C, .string D, .int .i64 g, .int .i64 e, .int .i64 f]] w fun x w' => x = .returned (.tuple #[.string (told C D g e f).1, .int .i64 (told C D g e f).2]) ∧ Below w.heap.size w w') ∧
    ∃ u, told C D g e f = ans C D g e f u := by
  have h := Classical.choose_spec (both C D g e f hC hD)
  unfold told
  rw [dif_pos ⟨hC, hD⟩]
  exact ⟨h.1, h.2, _, rfl⟩

/-- An image's bytes were told: they begin so, and say how many bytes of data there are. -/
theorem ans_tells {C D s : ByteArray} {g e f u : Int} (h : ans C D g e f u = (s, 0)) : Pure.May C D g e f ∧ s = img C D g e f u ∧ (s.extract 0 4).toList = [82, 51, 50, 10] ∧ W s 8 = D.size := by
  unfold ans at h
  by_cases hm : Pure.May C D g e f
  · rw [if_pos hm] at h
    by_cases hl : 1048576 < 28 + (C.size : Int) + D.size
    · rw [if_pos hl] at h; simp at h
    · rw [if_neg hl] at h
      simp only [Prod.mk.injEq, and_true] at h
      subst h
      refine ⟨hm, rfl, Reads.img_magic _ _ _ _ _ _, ?_⟩
      rw [Reads.img_W8]
      obtain ⟨_, _, _, _, a, b, _⟩ := hm
      omega
  · rw [if_neg hm] at h; simp at h

/-- A text is told back: it is long enough, and its image has just its bytes. -/
def Good (s : ByteArray) : Prop :=
  ¬ 1048576 < (s.size : Int) ∧ ¬ (s.size : Int) < 28 ∧ W s 4 ≤ (s.size : Int) - 28 ∧ told (RefRead.code s) (RefRead.data s) (W s 12) (W s 16) (W s 20) = (s, 0)

theorem good (s : ByteArray) (h : Good s) : Read2 s (RefRead.code s) (RefRead.data s) (W s 12) (W s 16) (W s 20) 0 := by
  obtain ⟨hl, h28, h4, ht⟩ := h
  have hc : (RefRead.code s).size ≤ 9223372036854775807 := by unfold RefRead.code; simp; omega
  have hd : (RefRead.data s).size ≤ 9223372036854775807 := by unfold RefRead.data; simp; omega
  obtain ⟨hA, hB, u, hu⟩ := told_both (RefRead.code s) (RefRead.data s) (W s 12) (W s 16) (W s 20) hc hd
  rw [ht] at hA hB hu
  obtain ⟨hm, hi, hmag, hW8⟩ := ans_tells hu.symm
  have hds : (RefRead.data s).size = s.size - (28 + W s 4).toNat := by unfold RefRead.data; simp
  have w4 := (W_range s 4).1
  refine ⟨fun w => ?_, fun w => ?_⟩
  · exact Read.on s s _ _ _ _ _ _ 0 w hl h28 (by rw [hmag]; rfl) hA (.inr ⟨by rw [beq_iff_eq, hW8, hds]; omega, .inr (.inr ⟨rfl, rfl, rfl, rfl, rfl, rfl, rfl, rfl⟩)⟩)
  · exact RefRead.yes s s 0 w hl (by omega) h4 hB rfl rfl

theorem bad (s : ByteArray) (hs : s.size ≤ 9223372036854775807) (h : ¬ Good s) : ∃ c, c ≠ 0 ∧ Read2 s ⟨#[]⟩ ⟨#[]⟩ 0 0 0 c := by
  by_cases hl : 1048576 < (s.size : Int)
  · exact ⟨3, by decide, fun w => Read.long s w hs hl, fun w => RefRead.long s w hs hl⟩
  refine ⟨5, by decide, ?_⟩
  by_cases h28 : (s.size : Int) < 28
  · exact ⟨fun w => Read.short s w hl (.inl h28), fun w => RefRead.short s w hl (.inl h28)⟩
  have hc : (RefRead.code s).size ≤ 9223372036854775807 := by unfold RefRead.code; simp; omega
  have hd : (RefRead.data s).size ≤ 9223372036854775807 := by unfold RefRead.data; simp; omega
  obtain ⟨hA, hB, u, hu⟩ := told_both (RefRead.code s) (RefRead.data s) (W s 12) (W s 16) (W s 20) hc hd
  have w4 := (W_range s 4).1
  have w8 := (W_range s 8).1
  have hno : W s 4 ≤ (s.size : Int) - 28 → told (RefRead.code s) (RefRead.data s) (W s 12) (W s 16) (W s 20) ≠ (s, 0) := fun h4 e => h ⟨hl, h28, h4, e⟩
  generalize told (RefRead.code s) (RefRead.data s) (W s 12) (W s 16) (W s 20) = tc at *
  obtain ⟨t, c⟩ := tc
  have hcases : W s 4 ≤ (s.size : Int) - 28 → (c == 0) = false ∨ ((c == 0) = true ∧ t ≠ s) := fun h4 => by
    by_cases hc0 : c = 0
    · exact .inr ⟨beq_iff_eq.2 hc0, fun e => hno h4 (by rw [e, hc0])⟩
    · exact .inl (beq_eq_false_iff_ne.2 hc0)
  have hne : t ≠ s → (t.toList == s.toList) = false := fun hts => by
    rw [beq_eq_false_iff_ne, ByteArray.toList_eq, ByteArray.toList_eq]
    exact fun h => hts (by apply ByteArray.ext; exact Array.toList_inj.1 h)
  constructor
  · intro w
    by_cases hmag : ((s.extract 0 4).toList == [82, 51, 50, 10]) = true
    · refine Read.on s t _ _ _ _ _ _ c w hl h28 hmag hA ?_
      by_cases hsum : W s 4 + W s 8 = (s.size : Int) - 28
      · rcases hcases (by omega) with q | ⟨q, q2⟩
        · exact .inr ⟨beq_iff_eq.2 hsum, .inl ⟨q, rfl, rfl, rfl, rfl, rfl, rfl⟩⟩
        · exact .inr ⟨beq_iff_eq.2 hsum, .inr (.inl ⟨q, hne q2, rfl, rfl, rfl, rfl, rfl, rfl⟩)⟩
      · exact .inl ⟨beq_eq_false_iff_ne.2 hsum, rfl, rfl, rfl, rfl, rfl, rfl⟩
    · exact Read.short s w hl (.inr ⟨h28, by simpa using hmag⟩)
  · intro w
    by_cases h4 : W s 4 ≤ (s.size : Int) - 28
    · rcases hcases h4 with q | ⟨q, q2⟩
      · exact RefRead.no s t c w hl (by omega) h4 hB q
      · exact RefRead.other s t c w hl (by omega) h4 hB q q2
    · exact RefRead.short s w hl (.inr ⟨by omega, by omega⟩)

set_option maxHeartbeats 8000000 in
set_option maxRecDepth 100000 in
theorem walk (s x1 x2 : ByteArray) (x3 x4 x5 x6 : Int) (w : World)
    (h1 : Hid (∀ w, Calls Try.prog 9 #[.string s] w fun e w' => e = res x1 x2 x3 x4 x5 x6 ∧ Below w.heap.size w w')) (h2 : Hid (∀ w, Calls Try.prog 10 #[.string s] w fun e w' => e = res x1 x2 x3 x4 x5 x6 ∧ Below w.heap.size w w')) :
    Calls Try.prog 4 #[.string s] w fun x w' => x = .returned (.bool true) ∧ Below w.heap.size w w' := by
  unfold res at h1 h2
  go_enter Try.func4, Try.ntmps4
  go_wp2_with fail
  (with_reducible refine (h1.out _).mono ?_)
  rintro e1 w1 ⟨rfl, hb⟩
  have hz : w.heap.size ≤ w1.heap.size := hb.size
  have hb1 : Aside0 (Below w.heap.size w w1) := ⟨hb⟩
  clear hb
  go_wp2_with fail
  (with_reducible refine (h2.out _).mono ?_)
  rintro e2 w2 ⟨rfl, hb⟩
  obtain ⟨hc, hf⟩ := bcell hb
  have hz1 : w1.heap.size < w2.heap.size := by have := hb.size; simp at this; omega
  have hb2 : Aside0 (Below w.heap.size w w2) := ⟨below_then (below_alloc hb1.out _) (by simp; omega) hb⟩
  clear hb
  go_wp2_with fail
  (with_reducible refine (awake _).mono ?_)
  rintro e3 w3 ⟨rfl, hb⟩
  have hb3 : Aside0 (Below w.heap.size w w3) := ⟨below_then (below_alloc hb2.out _) (by simp; have := hb2.out.size; omega) hb⟩
  go_wp2
  go_ret
  exact ⟨rfl, hb3.out⟩

theorem ImageReads (s : ByteArray) (w : World) (hs : s.size ≤ 9223372036854775807) :
    Calls Try.prog 4 #[.string s] w fun x w' => x = .returned (.bool true) ∧ Below w.heap.size w w' := by
  by_cases h : Good s
  · exact walk s _ _ _ _ _ _ w (good s h).1 (good s h).2
  · obtain ⟨c, _, h1, h2⟩ := bad s hs h
    exact walk s _ _ _ _ _ _ w h1 h2

end Go.Proofs.Ytbalpmpaccfpiaa.Law2
