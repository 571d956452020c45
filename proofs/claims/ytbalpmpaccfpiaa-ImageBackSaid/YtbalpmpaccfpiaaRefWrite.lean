/- crucibleref05.Write: what it answers of any image that may be. -/
import Derived.Test.YtbalpmpaccfpiaaWrite
namespace Go.Proofs.Ytbalpmpaccfpiaa.RefWrite
open Go.RowKit Go.Proofs.Ytbalpmpaccfpiaa.PImageReads Go.Proofs.Ytbalpmpaccfpiaa.Write Go.Proofs.YtbalpmpaccfpiaaW.PrintWords Go.Proofs.YtbalpmpaccfpiaaW.PrintLast Go.Proofs.YtbalpmpaccfpiaaW.PrintMore
set_option linter.unusedVariables false
set_option linter.unusedSimpArgs false

/-- A word's four bytes, as the reference makes them. -/
def four (n : Int) : ByteArray := strOfNums [n % 256, n / 256 % 256, n / 65536 % 256, n / 16777216 % 256]
theorem four_size (n : Int) : (four n).size = 4 := by simp [four, strOfNums, ByteArray.size]

/-- An image's bytes, as the reference puts them together. -/
def rimg (C D : ByteArray) (g e f s t : Int) : ByteArray :=
  (⟨#[82, 51, 50, 10]⟩ : ByteArray) ++ four (↑C.size % 4294967296) ++ four (↑D.size % 4294967296) ++ four (g % 4294967296) ++ four (e % 4294967296) ++ four (f % 4294967296) ++ four ((s + t) % 4294967296) ++ C ++ D

theorem word (n : Int) (w : World) : Calls Try.prog 14 #[.int .u32 n] w fun e w' => e = .returned (.string (four n)) ∧ Below w.heap.size w w' := crucibleref05_word.calls n _ w rfl

set_option maxHeartbeats 8000000 in
set_option maxRecDepth 100000 in
theorem write (k : Nat) (C D : ByteArray) (g e0 f s t : Int) (w : World) (hk : Aside0 (crucibleref04_May.f C D g e0 f = some true)) (hs : Aside0 (crucibleref05_sum.f k C = some s)) (ht : Aside0 (crucibleref05_sum.f k D = some t))
   (hC : C.size ≤ 1048576) (hD : D.size ≤ 65536) (hl : ¬ 1048576 < 28 + (C.size : Int) + D.size) :
    Calls Try.prog 7 #[.agg #[.string C, .string D, .int .i64 g, .int .i64 e0, .int .i64 f]] w fun e w' => e = .returned (.tuple #[.string (rimg C D g e0 f s t), .int .i64 0]) ∧ Below w.heap.size w w' := by
  go_enter Try.func7, Try.ntmps7
  go_wp2_with fail
  (with_reducible refine (crucibleref04_May.calls C D g e0 f _ _ hk.out).mono ?_)
  rintro e1 w1 ⟨rfl, hb⟩
  obtain ⟨hc, hf⟩ := bcell hb
  have hz : w.heap.size < w1.heap.size := by have := hb.size; simp at this; omega
  have hb1 : Below w.heap.size w w1 := (below_alloc (Below.refl _ _) _).trans (hb.mono (by simp))
  clear hb
  have f0 : w1.cell? ⟨w.heap.size, 0, none⟩ = some (.string C) := by rw [hc _ _ (by simp)]; simp [go_sem]
  have f1 : w1.cell? ⟨w.heap.size, 1, none⟩ = some (.string D) := by rw [hc _ _ (by simp)]; simp [go_sem]
  have f2 : w1.cell? ⟨w.heap.size, 2, none⟩ = some (.int .i64 g) := by rw [hc _ _ (by simp)]; simp [go_sem]
  have f3 : w1.cell? ⟨w.heap.size, 3, none⟩ = some (.int .i64 e0) := by rw [hc _ _ (by simp)]; simp [go_sem]
  have f4 : w1.cell? ⟨w.heap.size, 4, none⟩ = some (.int .i64 f) := by rw [hc _ _ (by simp)]; simp [go_sem]
  clear hc hf
  have hfs := four_size
  have hap := @ByteArray.size_append
  go_wp2_with fail
  go_region_held3 (fun w' => Below w.heap.size w w' ∧ w.heap.size < w'.heap.size ∧ w'.cell? ⟨w.heap.size, 0, none⟩ = some (.string C) ∧ w'.cell? ⟨w.heap.size, 1, none⟩ = some (.string D) ∧ w'.cell? ⟨w.heap.size, 2, none⟩ = some (.int .i64 g) ∧ w'.cell? ⟨w.heap.size, 3, none⟩ = some (.int .i64 e0) ∧ w'.cell? ⟨w.heap.size, 4, none⟩ = some (.int .i64 f))
    (first | exact ⟨below_drew hb1, hz, f0, f1, f2, f3, f4⟩ | (go_split_ands; exact ⟨below_then ‹_› (Nat.le_of_lt ‹_›) ‹_›, Nat.lt_of_lt_of_le ‹_› (Below.size ‹_›), by rw [Below.cell ‹_› ‹_›]; assumption, by rw [Below.cell ‹_› ‹_›]; assumption, by rw [Below.cell ‹_› ‹_›]; assumption, by rw [Below.cell ‹_› ‹_›]; assumption, by rw [Below.cell ‹_› ‹_›]; assumption⟩))
    (first | (go_at_call 14; refine (word _ _).mono ?_; rintro e w' ⟨rfl, hb⟩) | (go_at_call_of 15 (Value.string C); refine (crucibleref05_sum.calls k C s _ hs.out).mono ?_; rintro e w' ⟨rfl, hb⟩; have hb := hb.below) | (go_at_call_of 15 (Value.string D); refine (crucibleref05_sum.calls k D t _ ht.out).mono ?_; rintro e w' ⟨rfl, hb⟩; have hb := hb.below))
  go_split_ands
  have hb := Aside0.mk (show Below w.heap.size w _ from by assumption)
  have hv : ∀ v, v = rimg C D g e0 f s t → Ending.returned (.tuple #[.string v, .int .i64 0]) = Ending.returned (.tuple #[.string (rimg C D g e0 f s t), .int .i64 0]) := fun v h => by rw [h]
  have hv' := Lib.hid hv; clear hv
  go_wp2
  go_ret2
  refine ⟨hv'.out _ ?_, hb.out⟩
  unfold rimg
  rw [show (C.size : Int) % 4294967296 = C.size by omega, show (D.size : Int) % 4294967296 = D.size by omega]

set_option maxHeartbeats 8000000 in
set_option maxRecDepth 100000 in
theorem refused (C D : ByteArray) (g e0 f : Int) (w : World) (hk : Aside0 (crucibleref04_May.f C D g e0 f = some false)) :
    Calls Try.prog 7 #[.agg #[.string C, .string D, .int .i64 g, .int .i64 e0, .int .i64 f]] w fun e w' => e = .returned (.tuple #[.string ByteArray.empty, .int .i64 1]) ∧ Below w.heap.size w w' := by
  go_enter Try.func7, Try.ntmps7
  go_wp2_with fail
  (with_reducible refine (crucibleref04_May.calls C D g e0 f _ _ hk.out).mono ?_)
  rintro e1 w1 ⟨rfl, hb⟩
  have hb1 : Aside0 (Below w.heap.size w w1) := ⟨(below_alloc (Below.refl _ _) _).trans (hb.mono (by simp))⟩
  clear hb
  go_wp2
  go_ret2
  exact ⟨rfl, hb1.out⟩

set_option maxHeartbeats 8000000 in
set_option maxRecDepth 100000 in
theorem long (C D : ByteArray) (g e0 f : Int) (w : World) (hk : Aside0 (crucibleref04_May.f C D g e0 f = some true)) (hC : C.size ≤ 1048576) (hD : D.size ≤ 65536) (hl : 1048576 < 28 + (C.size : Int) + D.size) :
    Calls Try.prog 7 #[.agg #[.string C, .string D, .int .i64 g, .int .i64 e0, .int .i64 f]] w fun e w' => e = .returned (.tuple #[.string ByteArray.empty, .int .i64 3]) ∧ Below w.heap.size w w' := by
  go_enter Try.func7, Try.ntmps7
  go_wp2_with fail
  (with_reducible refine (crucibleref04_May.calls C D g e0 f _ _ hk.out).mono ?_)
  rintro e1 w1 ⟨rfl, hb⟩
  obtain ⟨hc, hf⟩ := bcell hb
  have hz : w.heap.size < w1.heap.size := by have := hb.size; simp at this; omega
  have hb1 : Aside0 (Below w.heap.size w w1) := ⟨(below_alloc (Below.refl _ _) _).trans (hb.mono (by simp))⟩
  clear hb
  go_wp2
  go_ret2
  exact ⟨rfl, hb1.out⟩

end Go.Proofs.Ytbalpmpaccfpiaa.RefWrite
