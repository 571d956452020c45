/- Any image's bytes, if it may be: the walk of the law. -/
import Derived.Test.YtbalpmpaccfpiaaRefWrite
import Derived.Test.YtbalpmpaccfpiaaPure
namespace Go.Proofs.Ytbalpmpaccfpiaa.Law1
open Go.RowKit Go.Proofs.Ytbalpmpaccfpiaa.PImageReads Go.Proofs.Ytbalpmpaccfpiaa.Write Go.Proofs.Ytbalpmpaccfpiaa.RefWrite Go.Proofs.YtbalpmpaccfpiaaW.PrintWords Go.Proofs.YtbalpmpaccfpiaaW.PrintLast Go.Proofs.YtbalpmpaccfpiaaW.PrintMore
set_option linter.unusedVariables false
set_option linter.unusedSimpArgs false

theorem nums_append (xs ys : List Int) : strOfNums (xs ++ ys) = strOfNums xs ++ strOfNums ys := by
  apply ByteArray.ext
  simp [strOfNums]

theorem img_eq (C D : ByteArray) (g e f s t : Int) : img C D g e f ((s + t) % 4294967296) = rimg C D g e f s t := by
  unfold img rimg Write.ahead
  have h : ∀ n, strOfNums (le4 n) = four n := fun n => rfl
  simp only [List.take, List.flatMap_cons, List.flatMap_nil, List.append_nil, nums_append, h]
  rw [show strOfNums [82, 51, 50, 10] = (⟨#[82, 51, 50, 10]⟩ : ByteArray) from by decide]
  simp only [ByteArray.append_assoc]

/-- What both answer. -/
def ans (C D : ByteArray) (g e f s : Int) : ByteArray × Int :=
  if Pure.May C D g e f then (if 1048576 < 28 + (C.size : Int) + D.size then (ByteArray.empty, 3) else (img C D g e f s, 0)) else (ByteArray.empty, 1)

/-- The two, of any image: the same. -/
theorem both (C D : ByteArray) (g e f : Int) (hC : C.size ≤ 9223372036854775807) (hD : D.size ≤ 9223372036854775807) : ∃ u,
    (∀ w, Calls Try.prog 6 #[.agg #[.string C, .string D, .int .i64 g, .int .i64 e, .int .i64 f]] w fun x w' => x = .returned (.tuple #[.string (ans C D g e f u).1, .int .i64 (ans C D g e f u).2]) ∧ Below w.heap.size w w') ∧
    (∀ w, Calls Try.prog 7 #[.agg #[.string C, .string D, .int .i64 g, .int .i64 e, .int .i64 f]] w fun x w' => x = .returned (.tuple #[.string (ans C D g e f u).1, .int .i64 (ans C D g e f u).2]) ∧ Below w.heap.size w w') := by
  obtain ⟨k, s, t, u, h1, h2, h3, h4, h5, h6⟩ := Pure.sums C D hC hD
  refine ⟨u, ?_, ?_⟩
  all_goals
    intro w
    unfold ans
    by_cases hm : Pure.May C D g e f
    · have c1 : C.size ≤ 1048576 := hm.2.1
      have c2 : D.size ≤ 65536 := by obtain ⟨_, _, _, _, a, b, _⟩ := hm; omega
      have hk := Pure.check C D g e f
      have hy := Pure.may C D g e f
      rw [if_pos hm] at hk
      rw [decide_eq_true hm] at hy
      rw [if_pos hm]
      by_cases hl : 1048576 < 28 + (C.size : Int) + D.size
      · rw [if_pos hl]
        first | exact Write.long 3 C D g e f w ⟨hk⟩ c1 c2 hl | exact RefWrite.long C D g e f w ⟨hy⟩ c1 c2 hl
      · rw [if_neg hl]
        have hk' := at_rounds (fun a => machine_Check.mono C D g e f a) (show 3 ≤ k + 3 by omega) hk
        have h1' := at_rounds (fun a => image_sum.mono [C, D] a) (show k ≤ k + 3 by omega) h1
        first | exact Write.write (k + 3) C D g e f u w ⟨hk'⟩ ⟨h1'⟩ c1 c2 ⟨h5, h6⟩ hl | (rw [h4, img_eq]; exact RefWrite.write k C D g e f s t w ⟨hy⟩ ⟨h2⟩ ⟨h3⟩ c1 c2 hl)
    · have hk := Pure.check C D g e f
      have hy := Pure.may C D g e f
      rw [if_neg hm] at hk
      rw [decide_eq_false hm] at hy
      rw [if_neg hm]
      first | exact Write.refused 3 C D g e f w ⟨hk⟩ | exact RefWrite.refused C D g e f w ⟨hy⟩

theorem own_img : img ⟨#[0, 0, 0, 0]⟩ ⟨#[]⟩ 0 0 7 0 = (⟨#[82, 51, 50, 10, 4, 0, 0, 0, 0, 0, 0, 0, 0, 0, 0, 0, 0, 0, 0, 0, 7, 0, 0, 0, 0, 0, 0, 0, 0, 0, 0, 0]⟩ : ByteArray) := by decide

theorem own_check : machine_Check.f 3 ⟨#[0, 0, 0, 0]⟩ ⟨#[]⟩ 0 0 7 = some 0 := by
  rw [Pure.check, if_pos (by decide)]

theorem own_sum : ∃ k, image_sum.f k [⟨#[0, 0, 0, 0]⟩, ⟨#[]⟩] = some 0 := ⟨12, by decide +kernel⟩

theorem own_write (w : World) : Calls Try.prog 6 #[.agg #[.string ⟨#[0, 0, 0, 0]⟩, .string ⟨#[]⟩, .int .i64 0, .int .i64 0, .int .i64 7]] w fun x w' =>
    x = .returned (.tuple #[.string ⟨#[82, 51, 50, 10, 4, 0, 0, 0, 0, 0, 0, 0, 0, 0, 0, 0, 0, 0, 0, 0, 7, 0, 0, 0, 0, 0, 0, 0, 0, 0, 0, 0]⟩, .int .i64 0]) ∧ Below w.heap.size w w' := by
  obtain ⟨k, hk⟩ := own_sum
  rw [← own_img]
  exact Write.write (k + 3) _ _ 0 0 7 0 w ⟨at_rounds (fun a => machine_Check.mono _ _ 0 0 7 a) (show 3 ≤ k + 3 by omega) own_check⟩ ⟨at_rounds (fun a => image_sum.mono _ a) (show k ≤ k + 3 by omega) hk⟩ (by decide) (by decide) ⟨by decide, by decide⟩ (by decide)

set_option maxHeartbeats 8000000 in
set_option maxRecDepth 100000 in
theorem awake (w : World) : Calls Try.prog 8 #[] w fun x w' => x = .returned (.bool true) ∧ Below w.heap.size w w' := by
  have hx : ((⟨#[82, 51, 50, 10, 4, 0, 0, 0, 0, 0, 0, 0, 0, 0, 0, 0, 0, 0, 0, 0, 7, 0, 0, 0, 0, 0, 0, 0, 0, 0, 0, 0]⟩ : ByteArray).extract 0 4).toList = [82, 51, 50, 10] := by decide +kernel
  go_enter Try.func8, Try.ntmps8
  go_wp2_with fail
  (with_reducible refine (own_write _).mono ?_)
  rintro e1 w1 ⟨rfl, hb⟩
  have hb1 := Aside0.mk hb
  clear hb
  go_wp2
  go_ret
  exact ⟨by simp; rfl, hb1.out⟩

set_option maxHeartbeats 8000000 in
set_option maxRecDepth 100000 in
theorem writes (C D s : ByteArray) (g e f c : Int) (w : World)
    (h1 : Hid (∀ w, Calls Try.prog 6 #[.agg #[.string C, .string D, .int .i64 g, .int .i64 e, .int .i64 f]] w fun x w' => x = .returned (.tuple #[.string s, .int .i64 c]) ∧ Below w.heap.size w w'))
    (h2 : Hid (∀ w, Calls Try.prog 7 #[.agg #[.string C, .string D, .int .i64 g, .int .i64 e, .int .i64 f]] w fun x w' => x = .returned (.tuple #[.string s, .int .i64 c]) ∧ Below w.heap.size w w')) :
    Calls Try.prog 3 #[.agg #[.string C, .string D, .int .i64 g, .int .i64 e, .int .i64 f]] w fun x w' => x = .returned (.bool true) ∧ Below w.heap.size w w' := by
  go_enter Try.func3, Try.ntmps3
  go_wp2_with fail
  (with_reducible refine (h1.out _).mono ?_)
  rintro e1 w1 ⟨rfl, hb⟩
  obtain ⟨hc, hf⟩ := bcell hb
  have hz : w.heap.size < w1.heap.size := by have := hb.size; simp at this; omega
  have hb1 : Aside0 (Below w.heap.size w w1) := ⟨(below_alloc (Below.refl _ _) _).trans (hb.mono (by simp))⟩
  clear hb
  go_wp2_with fail
  (with_reducible refine (h2.out _).mono ?_)
  rintro e2 w2 ⟨rfl, hb⟩
  have hb2 : Aside0 (Below w.heap.size w w2) := ⟨below_then hb1.out (by omega) hb⟩
  clear hb
  go_wp2_with fail
  (with_reducible refine (awake _).mono ?_)
  rintro e3 w3 ⟨rfl, hb⟩
  have hb3 : Aside0 (Below w.heap.size w w3) := ⟨below_then hb2.out hb2.out.size hb⟩
  go_wp2
  go_ret
  exact ⟨rfl, hb3.out⟩

theorem ImageWrites (C D : ByteArray) (g e f : Int) (w : World) (hC : C.size ≤ 9223372036854775807) (hD : D.size ≤ 9223372036854775807) :
    Calls Try.prog 3 #[.agg #[.string C, .string D, .int .i64 g, .int .i64 e, .int .i64 f]] w fun x w' => x = .returned (.bool true) ∧ Below w.heap.size w w' := by
  obtain ⟨u, h1, h2⟩ := both C D g e f hC hD
  exact writes C D _ g e f _ w h1 h2

end Go.Proofs.Ytbalpmpaccfpiaa.Law1
