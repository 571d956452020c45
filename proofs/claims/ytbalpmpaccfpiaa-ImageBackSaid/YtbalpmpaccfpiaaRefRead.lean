/- crucibleref05.Read: any bytes are read as just their image, or as none. -/
import Derived.Test.YtbalpmpaccfpiaaNumber
import Derived.Test.YtbalpmpaccfpiaaLaw1
namespace Go.Proofs.Ytbalpmpaccfpiaa.RefRead
open Go.RowKit Go.Proofs.Ytbalpmpaccfpiaa.PImageReads Go.Proofs.Ytbalpmpaccfpiaa.Number Go.Proofs.Ytbalpmpaccfpiaa.Write Go.Proofs.YtbalpmpaccfpiaaW.PrintWords Go.Proofs.YtbalpmpaccfpiaaW.PrintLast Go.Proofs.YtbalpmpaccfpiaaW.PrintMore
set_option linter.unusedVariables false
set_option linter.unusedSimpArgs false

set_option maxHeartbeats 8000000 in
set_option maxRecDepth 100000 in
theorem long (s : ByteArray) (w : World) (hs : s.size ≤ 9223372036854775807) (hl : 1048576 < (s.size : Int)) :
    Calls Try.prog 10 #[.string s] w fun e w' => e = .returned (.tuple #[.agg #[.string ByteArray.empty, .string ByteArray.empty, .int .i64 0, .int .i64 0, .int .i64 0], .int .i64 3]) ∧ Below w.heap.size w w' := by
  go_enter Try.func10, Try.ntmps10
  go_wp2
  exact bodyPost_ret (results_ct rfl _ _ w.heap.size 23 _ (0, 0) _ rfl (blk_new w _) Try.underlying23 rfl (by kernel_rfl)) rfl ⟨rfl, below_alloc (Below.refl _ _) _⟩

/-- The image that a text would be. -/
def code (s : ByteArray) : ByteArray := s.extract 28 (28 + W s 4).toNat
def data (s : ByteArray) : ByteArray := s.extract (28 + W s 4).toNat s.size

set_option maxHeartbeats 8000000 in
set_option maxRecDepth 100000 in
/-- Too short, or its first number is too great. -/
theorem short (s : ByteArray) (w : World) (hl : ¬ 1048576 < (s.size : Int)) (hn : (s.size : Int) < 28 ∨ (28 ≤ (s.size : Int) ∧ (s.size : Int) - 28 < W s 4)) :
    Calls Try.prog 10 #[.string s] w fun e w' => e = .returned (.tuple #[.agg #[.string ByteArray.empty, .string ByteArray.empty, .int .i64 0, .int .i64 0, .int .i64 0], .int .i64 5]) ∧ Below w.heap.size w w' := by
  rcases hn with hn | ⟨hn, hw⟩
  · go_enter Try.func10, Try.ntmps10
    go_wp2
    exact bodyPost_ret (results_ct rfl _ _ w.heap.size 23 _ (0, 0) _ rfl (blk_new w _) Try.underlying23 rfl (by kernel_rfl)) rfl ⟨rfl, below_alloc (Below.refl _ _) _⟩
  · have hN := Lib.hid fun w => number s 4 w (by omega) (by omega) (by omega)
    have hn' : ¬ (s.size : Int) < 28 := by omega
    go_enter Try.func10, Try.ntmps10
    go_wp2_with fail
    (with_reducible refine (hN.out _).mono ?_)
    rintro e w' ⟨rfl, rfl⟩
    go_wp2
    exact bodyPost_ret (results_ct rfl _ _ w.heap.size 23 _ (0, 0) _ rfl (blk_new w _) Try.underlying23 rfl (by kernel_rfl)) rfl ⟨rfl, below_alloc (Below.refl _ _) _⟩

set_option maxHeartbeats 8000000 in
set_option maxRecDepth 100000 in
/-- No such image has bytes. -/
theorem no (s t : ByteArray) (c : Int) (w : World) (hl : ¬ 1048576 < (s.size : Int)) (hn : 28 ≤ (s.size : Int)) (hw : W s 4 ≤ (s.size : Int) - 28)
    (hT : Hid (∀ w, Calls Try.prog 7 #[.agg #[.string (code s), .string (data s), .int .i64 (W s 12), .int .i64 (W s 16), .int .i64 (W s 20)]] w fun x w' => x = .returned (.tuple #[.string t, .int .i64 c]) ∧ Below w.heap.size w w'))
    (ho : (c == 0) = false) :
    Calls Try.prog 10 #[.string s] w fun e w' => e = .returned (.tuple #[.agg #[.string ByteArray.empty, .string ByteArray.empty, .int .i64 0, .int .i64 0, .int .i64 0], .int .i64 5]) ∧ Below w.heap.size w w' := by
  have ho' : (c != 0) = true := by rw [bne_iff_ne]; exact beq_eq_false_iff_ne.1 ho
  have hN := Lib.hid fun (a : Int) w (h : 0 ≤ a ∧ a + 4 ≤ s.size) => number s a w h.1 h.2 (by omega)
  have hn' : ¬ (s.size : Int) < 28 := by omega
  have n0 := (W_range s 4).1
  have n1 := (W_range s 4).2
  have hw2 : 28 + W s 4 ≤ (s.size : Int) := by omega
  have hw3 : (28 : Int) ≤ 28 + W s 4 := by omega
  have hw4 : (0 : Int) ≤ 28 + W s 4 := by omega
  have hwr : IntKind.i64.wrap (28 + W s 4) = 28 + W s 4 := IntWalk.i64_in _ (by omega)
  go_enter Try.func10, Try.ntmps10
  go_wp2_with fail
  (with_reducible refine (hN.out 4 _ ⟨by omega, by omega⟩).mono ?_)
  rintro e w' ⟨rfl, rfl⟩
  go_wp2_with fail
  (with_reducible refine (hN.out 4 _ ⟨by omega, by omega⟩).mono ?_)
  rintro e w' ⟨rfl, rfl⟩
  go_wp2_with fail
  go_region_held3 (fun w' => w.heap.size < w'.heap.size) (first | (simp; omega) | (simp; done) | go_keep) (first | (go_at_call 16; refine (hN.out _ _ ⟨by omega, by omega⟩).mono ?_; rintro e w' ⟨rfl, rfl⟩))
  all_goals
    go_wp2_with fail
    refine (hT.out _).mono ?_
    rintro e w1 ⟨rfl, hb⟩
    obtain ⟨hc, hf⟩ := bcell hb
    have hz : w.heap.size + 1 < w1.heap.size := by have := hb.size; simp at this; omega
    have hz' : w.heap.size < w1.heap.size := by omega
    have hb1 : Aside0 (Below w.heap.size w w1) := ⟨below_then (by repeat (with_reducible first | exact Below.refl _ _ | refine below_alloc ?_ _ | refine pw_below_drewN ?_ _ | refine below_drew ?_)) (by simp <;> omega) hb⟩
    have hk : Aside0 (w1.heap[w.heap.size]? = some (.cells #[.string ⟨#[]⟩, .string ⟨#[]⟩, .int .i64 0, .int .i64 0, .int .i64 0] 23 (0, 0))) := ⟨blk_below (by repeat (with_reducible first | exact blk_new w _ | refine blk_alloc ?_ _ | refine blk_drewN ?_ _ | refine blk_drew ?_)) hb⟩
    clear hb
    go_wp2
    refine bodyPost_ret (results_ct rfl _ _ w.heap.size 23 #[.string _, .string _, .int .i64 _, .int .i64 _, .int .i64 _] (0, 0) _ rfl (blk_put (blk_put (blk_put (blk_put (blk_put hk.out 0 _ rfl) 1 _ rfl) 2 _ rfl) 3 _ rfl) 4 _ rfl) Try.underlying23 rfl (by kernel_rfl)) rfl ⟨rfl, ?_⟩
    repeat (with_reducible first | exact hb1.out | refine below_alloc ?_ _ | refine Below.setCell ?_ (by simp) _)

set_option maxHeartbeats 8000000 in
set_option maxRecDepth 100000 in
/-- Its image has other bytes. -/
theorem other (s t : ByteArray) (c : Int) (w : World) (hl : ¬ 1048576 < (s.size : Int)) (hn : 28 ≤ (s.size : Int)) (hw : W s 4 ≤ (s.size : Int) - 28)
    (hT : Hid (∀ w, Calls Try.prog 7 #[.agg #[.string (code s), .string (data s), .int .i64 (W s 12), .int .i64 (W s 16), .int .i64 (W s 20)]] w fun x w' => x = .returned (.tuple #[.string t, .int .i64 c]) ∧ Below w.heap.size w w'))
    (ho : (c == 0) = true) (hts : t ≠ s) :
    Calls Try.prog 10 #[.string s] w fun e w' => e = .returned (.tuple #[.agg #[.string ByteArray.empty, .string ByteArray.empty, .int .i64 0, .int .i64 0, .int .i64 0], .int .i64 5]) ∧ Below w.heap.size w w' := by
  obtain rfl : c = 0 := beq_iff_eq.1 ho
  have hne : (t.toList == s.toList) = false := by
    rw [beq_eq_false_iff_ne, ByteArray.toList_eq, ByteArray.toList_eq]
    exact fun h => hts (by apply ByteArray.ext; exact Array.toList_inj.1 h)
  clear hts
  have hN := Lib.hid fun (a : Int) w (h : 0 ≤ a ∧ a + 4 ≤ s.size) => number s a w h.1 h.2 (by omega)
  have hn' : ¬ (s.size : Int) < 28 := by omega
  have n0 := (W_range s 4).1
  have n1 := (W_range s 4).2
  have hw2 : 28 + W s 4 ≤ (s.size : Int) := by omega
  have hw3 : (28 : Int) ≤ 28 + W s 4 := by omega
  have hw4 : (0 : Int) ≤ 28 + W s 4 := by omega
  have hwr : IntKind.i64.wrap (28 + W s 4) = 28 + W s 4 := IntWalk.i64_in _ (by omega)
  go_enter Try.func10, Try.ntmps10
  go_wp2_with fail
  (with_reducible refine (hN.out 4 _ ⟨by omega, by omega⟩).mono ?_)
  rintro e w' ⟨rfl, rfl⟩
  go_wp2_with fail
  (with_reducible refine (hN.out 4 _ ⟨by omega, by omega⟩).mono ?_)
  rintro e w' ⟨rfl, rfl⟩
  go_wp2_with fail
  go_region_held3 (fun w' => w.heap.size < w'.heap.size) (first | (simp; omega) | (simp; done) | go_keep) (first | (go_at_call 16; refine (hN.out _ _ ⟨by omega, by omega⟩).mono ?_; rintro e w' ⟨rfl, rfl⟩))
  all_goals
    go_wp2_with fail
    refine (hT.out _).mono ?_
    rintro e w1 ⟨rfl, hb⟩
    obtain ⟨hc, hf⟩ := bcell hb
    have hz : w.heap.size + 1 < w1.heap.size := by have := hb.size; simp at this; omega
    have hz' : w.heap.size < w1.heap.size := by omega
    have hb1 : Aside0 (Below w.heap.size w w1) := ⟨below_then (by repeat (with_reducible first | exact Below.refl _ _ | refine below_alloc ?_ _ | refine pw_below_drewN ?_ _ | refine below_drew ?_)) (by simp <;> omega) hb⟩
    have hk : Aside0 (w1.heap[w.heap.size]? = some (.cells #[.string ⟨#[]⟩, .string ⟨#[]⟩, .int .i64 0, .int .i64 0, .int .i64 0] 23 (0, 0))) := ⟨blk_below (by repeat (with_reducible first | exact blk_new w _ | refine blk_alloc ?_ _ | refine blk_drewN ?_ _ | refine blk_drew ?_)) hb⟩
    clear hb
    go_wp2
    refine bodyPost_ret (results_ct rfl _ _ w.heap.size 23 #[.string _, .string _, .int .i64 _, .int .i64 _, .int .i64 _] (0, 0) _ rfl (blk_put (blk_put (blk_put (blk_put (blk_put hk.out 0 _ rfl) 1 _ rfl) 2 _ rfl) 3 _ rfl) 4 _ rfl) Try.underlying23 rfl (by kernel_rfl)) rfl ⟨rfl, ?_⟩
    repeat (with_reducible first | exact hb1.out | refine below_alloc ?_ _ | refine Below.setCell ?_ (by simp) _)

set_option maxHeartbeats 8000000 in
set_option maxRecDepth 100000 in
/-- It is its image's. -/
theorem yes (s t : ByteArray) (c : Int) (w : World) (hl : ¬ 1048576 < (s.size : Int)) (hn : 28 ≤ (s.size : Int)) (hw : W s 4 ≤ (s.size : Int) - 28)
    (hT : Hid (∀ w, Calls Try.prog 7 #[.agg #[.string (code s), .string (data s), .int .i64 (W s 12), .int .i64 (W s 16), .int .i64 (W s 20)]] w fun x w' => x = .returned (.tuple #[.string t, .int .i64 c]) ∧ Below w.heap.size w w'))
    (ho : (c == 0) = true) (hts : t = s) :
    Calls Try.prog 10 #[.string s] w fun e w' => e = .returned (.tuple #[.agg #[.string (code s), .string (data s), .int .i64 (W s 12), .int .i64 (W s 16), .int .i64 (W s 20)], .int .i64 0]) ∧ Below w.heap.size w w' := by
  obtain rfl : c = 0 := beq_iff_eq.1 ho
  subst t
  have hN := Lib.hid fun (a : Int) w (h : 0 ≤ a ∧ a + 4 ≤ s.size) => number s a w h.1 h.2 (by omega)
  have hn' : ¬ (s.size : Int) < 28 := by omega
  have n0 := (W_range s 4).1
  have n1 := (W_range s 4).2
  have hw2 : 28 + W s 4 ≤ (s.size : Int) := by omega
  have hw3 : (28 : Int) ≤ 28 + W s 4 := by omega
  have hw4 : (0 : Int) ≤ 28 + W s 4 := by omega
  have hwr : IntKind.i64.wrap (28 + W s 4) = 28 + W s 4 := IntWalk.i64_in _ (by omega)
  go_enter Try.func10, Try.ntmps10
  go_wp2_with fail
  (with_reducible refine (hN.out 4 _ ⟨by omega, by omega⟩).mono ?_)
  rintro e w' ⟨rfl, rfl⟩
  go_wp2_with fail
  (with_reducible refine (hN.out 4 _ ⟨by omega, by omega⟩).mono ?_)
  rintro e w' ⟨rfl, rfl⟩
  go_wp2_with fail
  go_region_held3 (fun w' => w.heap.size < w'.heap.size) (first | (simp; omega) | (simp; done) | go_keep) (first | (go_at_call 16; refine (hN.out _ _ ⟨by omega, by omega⟩).mono ?_; rintro e w' ⟨rfl, rfl⟩))
  all_goals
    go_wp2_with fail
    refine (hT.out _).mono ?_
    rintro e w1 ⟨rfl, hb⟩
    obtain ⟨hc, hf⟩ := bcell hb
    have hz : w.heap.size + 1 < w1.heap.size := by have := hb.size; simp at this; omega
    have hz' : w.heap.size < w1.heap.size := by omega
    have hb1 : Aside0 (Below w.heap.size w w1) := ⟨below_then (by repeat (with_reducible first | exact Below.refl _ _ | refine below_alloc ?_ _ | refine pw_below_drewN ?_ _ | refine below_drew ?_)) (by simp <;> omega) hb⟩
    have hk : Aside0 (w1.heap[w.heap.size]? = some (.cells #[.string ⟨#[]⟩, .string ⟨#[]⟩, .int .i64 0, .int .i64 0, .int .i64 0] 23 (0, 0))) := ⟨blk_below (by repeat (with_reducible first | exact blk_new w _ | refine blk_alloc ?_ _ | refine blk_drewN ?_ _ | refine blk_drew ?_)) hb⟩
    clear hb
    go_wp2
    refine bodyPost_ret (results_ct rfl _ _ w.heap.size 23 #[.string _, .string _, .int .i64 _, .int .i64 _, .int .i64 _] (0, 0) _ rfl (blk_put (blk_put (blk_put (blk_put (blk_put hk.out 0 _ rfl) 1 _ rfl) 2 _ rfl) 3 _ rfl) 4 _ rfl) Try.underlying23 rfl (by kernel_rfl)) rfl ⟨rfl, ?_⟩
    repeat (with_reducible first | exact hb1.out | refine below_alloc ?_ _ | refine Below.setCell ?_ (by simp) _)

end Go.Proofs.Ytbalpmpaccfpiaa.RefRead
