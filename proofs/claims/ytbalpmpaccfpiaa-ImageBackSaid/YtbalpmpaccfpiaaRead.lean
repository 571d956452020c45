/- image.Read: any bytes are read as just their image, or as none. -/
import Derived.Test.YtbalpmpaccfpiaaNumber
import Derived.Test.YtbalpmpaccfpiaaLaw1
import Derived.Laws.BitsAllLaws
import Derived.StillTailTactics
namespace Go.Proofs.Ytbalpmpaccfpiaa.Read
open Go.RowKit Go.Proofs.Ytbalpmpaccfpiaa.PImageReads Go.Proofs.Ytbalpmpaccfpiaa.Number Go.Proofs.Ytbalpmpaccfpiaa.Write Go.Proofs.YtbalpmpaccfpiaaW.PrintWords Go.Proofs.YtbalpmpaccfpiaaW.PrintLast Go.Proofs.YtbalpmpaccfpiaaW.PrintMore
set_option linter.unusedVariables false
set_option linter.unusedSimpArgs false

set_option maxHeartbeats 8000000 in
set_option maxRecDepth 100000 in
theorem long (s : ByteArray) (w : World) (hs : s.size ≤ 9223372036854775807) (hl : 1048576 < (s.size : Int)) :
    Calls Try.prog 9 #[.string s] w fun e w' => e = .returned (.tuple #[.agg #[.string ByteArray.empty, .string ByteArray.empty, .int .i64 0, .int .i64 0, .int .i64 0], .int .i64 3]) ∧ Below w.heap.size w w' := by
  go_enter Try.func9, Try.ntmps9
  go_wp2
  exact bodyPost_ret (results_ct rfl _ _ w.heap.size 23 _ (0, 0) _ rfl (blk_new w _) Try.underlying23 rfl (by kernel_rfl)) rfl ⟨rfl, below_alloc (Below.refl _ _) _⟩

set_option maxHeartbeats 8000000 in
set_option maxRecDepth 100000 in
/-- Too short, or it begins otherwise. -/
theorem short (s : ByteArray) (w : World) (hl : ¬ 1048576 < (s.size : Int)) (hn : (s.size : Int) < 28 ∨ (¬ (s.size : Int) < 28 ∧ ((s.extract 0 4).toList == [82, 51, 50, 10]) = false)) :
    Calls Try.prog 9 #[.string s] w fun e w' => e = .returned (.tuple #[.agg #[.string ByteArray.empty, .string ByteArray.empty, .int .i64 0, .int .i64 0, .int .i64 0], .int .i64 5]) ∧ Below w.heap.size w w' := by
  rcases hn with hn | ⟨hn, hw⟩
  · go_enter Try.func9, Try.ntmps9
    go_wp2
    exact bodyPost_ret (results_ct rfl _ _ w.heap.size 23 _ (0, 0) _ rfl (blk_new w _) Try.underlying23 rfl (by kernel_rfl)) rfl ⟨rfl, below_alloc (Below.refl _ _) _⟩
  · have h4 : (4 : Int) ≤ (s.size : Int) := by omega
    go_enter Try.func9, Try.ntmps9
    go_wp2
    exact bodyPost_ret (results_ct rfl _ _ w.heap.size 23 _ (0, 0) _ rfl (blk_new w _) Try.underlying23 rfl (by kernel_rfl)) rfl ⟨rfl, below_alloc (Below.refl _ _) _⟩

/-- A text's rest begins with the text's bytes. -/
theorem rest (s : ByteArray) (j : Nat) (h : 4 + 4 * j + 4 ≤ s.size) : ∃ b, b = s.extract (4 + 4 * j) s.size ∧ 4 ≤ b.size ∧ ∃ x0 x1 x2 x3 : Int, (∀ h : 0 < b.size, ((b[0]'h).toNat : Int) = x0) ∧ (∀ h : 1 < b.size, ((b[1]'h).toNat : Int) = x1) ∧ (∀ h : 2 < b.size, ((b[2]'h).toNat : Int) = x2) ∧ (∀ h : 3 < b.size, ((b[3]'h).toNat : Int) = x3) ∧
    (0 ≤ x0 ∧ x0 ≤ 255) ∧ (0 ≤ x1 ∧ x1 ≤ 255) ∧ (0 ≤ x2 ∧ x2 ≤ 255) ∧ (0 ≤ x3 ∧ x3 ≤ 255) ∧ x0 + x1 * 256 + x2 * 65536 + x3 * 16777216 = W s (4 + 4 * (j : Int)) := by
  have key : ∀ k : Nat, k < 4 → ∀ hk : k < (s.extract (4 + 4 * j) s.size).size, (((s.extract (4 + 4 * j) s.size)[k]'hk).toNat : Int) = bt s (4 + 4 * (j : Int) + k) := by
    intro k hk hk2
    have e : (4 + 4 * (j : Int) + k).toNat = 4 + 4 * j + k := by omega
    unfold bt
    rw [dif_pos (by omega)]
    simp only [ByteArray.getElem_extract, e]
  refine ⟨_, rfl, by simp; omega, bt s (4 + 4 * (j : Int) + (0 : Nat)), bt s (4 + 4 * (j : Int) + (1 : Nat)), bt s (4 + 4 * (j : Int) + (2 : Nat)), bt s (4 + 4 * (j : Int) + (3 : Nat)), key 0 (by omega), key 1 (by omega), key 2 (by omega), key 3 (by omega), bt_range _ _, bt_range _ _, bt_range _ _, bt_range _ _, ?_⟩
  rw [W_eq]
  simp

theorem orNum (x y : Int) (n : Nat) (m : Int) (hm : m = ((2 ^ n : Nat) : Int)) (hm2 : m ≤ 4294967296) (x0 : 0 ≤ x) (x1 : x < m) (y0 : 0 ≤ y) (y1 : y < 4294967296) (hy : y % m = 0) : Go.bits .or .i64 x y = x + y := by
  obtain ⟨a, rfl⟩ := Int.eq_ofNat_of_zero_le x0
  obtain ⟨b, rfl⟩ := Int.eq_ofNat_of_zero_le y0
  have hz : b % 2 ^ n = 0 := by
    have : ((b % 2 ^ n : Nat) : Int) = 0 := by rw [Int.natCast_emod, ← hm]; exact hy
    omega
  have ha : a < 2 ^ n := by omega
  rw [(bits_nat .i64 32 (by decide) (fun n h1 h2 => IntWalk.i64_in n (by omega)) a b (by omega) (by omega)).2, Nat.or_comm, nat_join n b a hz ha]
  omega
theorem or4 (x0 x1 x2 x3 : Int) (p0 : 0 ≤ x0) (q0 : x0 ≤ 255) (p1 : 0 ≤ x1) (q1 : x1 ≤ 255) (p2 : 0 ≤ x2) (q2 : x2 ≤ 255) (p3 : 0 ≤ x3) (q3 : x3 ≤ 255) :
    bits .or .i64 (bits .or .i64 (bits .or .i64 x0 (x1 * 256)) (x2 * 65536)) (x3 * 16777216) = x0 + x1 * 256 + x2 * 65536 + x3 * 16777216 := by
  rw [orNum x0 (x1 * 256) 8 256 (by decide) (by omega) p0 (by omega) (by omega) (by omega) (by omega)]
  rw [orNum (x0 + x1 * 256) (x2 * 65536) 16 65536 (by decide) (by omega) (by omega) (by omega) (by omega) (by omega) (by omega)]
  rw [orNum (x0 + x1 * 256 + x2 * 65536) (x3 * 16777216) 24 16777216 (by decide) (by omega) (by omega) (by omega) (by omega) (by omega) (by omega)]

/-- The array behind so many rounds. -/
def arr (s : ByteArray) (j : Nat) : Array Value := #[if 0 < j then .int .i64 (W s 4) else .int .i64 0, if 1 < j then .int .i64 (W s 8) else .int .i64 0, if 2 < j then .int .i64 (W s 12) else .int .i64 0, if 3 < j then .int .i64 (W s 16) else .int .i64 0, if 4 < j then .int .i64 (W s 20) else .int .i64 0, if 5 < j then .int .i64 (W s 24) else .int .i64 0]
theorem arr_at (s : ByteArray) (j : Nat) (h : j < 6) : (arr s j)[j]? = some (.int .i64 0) := by
  match j, h with
  | 0, _ => rfl
  | 1, _ => rfl
  | 2, _ => rfl
  | 3, _ => rfl
  | 4, _ => rfl
  | 5, _ => rfl
theorem arr_set (s : ByteArray) (j : Nat) (h : j < 6) : (arr s j).setIfInBounds j (.int .i64 (W s (4 + 4 * (j : Int)))) = arr s (j + 1) := by
  match j, h with
  | 0, _ => rfl
  | 1, _ => rfl
  | 2, _ => rfl
  | 3, _ => rfl
  | 4, _ => rfl
  | 5, _ => rfl

set_option maxHeartbeats 8000000 in
set_option maxRecDepth 100000 in
theorem on (s t x1 x2 : ByteArray) (x3 x4 x5 x6 c : Int) (w : World) (hl : ¬ 1048576 < (s.size : Int)) (hn : ¬ (s.size : Int) < 28) (hw : ((s.extract 0 4).toList == [82, 51, 50, 10]) = true)
    (hT : Hid (∀ w, Calls Try.prog 6 #[.agg #[.string (s.extract 28 (28 + W s 4).toNat), .string (s.extract (28 + W s 4).toNat s.size), .int .i64 (W s 12), .int .i64 (W s 16), .int .i64 (W s 20)]] w fun x w' => x = .returned (.tuple #[.string t, .int .i64 c]) ∧ Below w.heap.size w w'))
    (ho : (((W s 4 + W s 8) == ((s.size : Int) - 28)) = false ∧ x1 = ⟨#[]⟩ ∧ x2 = ⟨#[]⟩ ∧ x3 = 0 ∧ x4 = 0 ∧ x5 = 0 ∧ x6 = 5) ∨ (((W s 4 + W s 8) == ((s.size : Int) - 28)) = true ∧
      (((c == 0) = false ∧ x1 = ⟨#[]⟩ ∧ x2 = ⟨#[]⟩ ∧ x3 = 0 ∧ x4 = 0 ∧ x5 = 0 ∧ x6 = 5) ∨ ((c == 0) = true ∧ (t.toList == s.toList) = false ∧ x1 = ⟨#[]⟩ ∧ x2 = ⟨#[]⟩ ∧ x3 = 0 ∧ x4 = 0 ∧ x5 = 0 ∧ x6 = 5) ∨
      ((c == 0) = true ∧ Hid (t = s) ∧ x1 = s.extract 28 (28 + W s 4).toNat ∧ x2 = s.extract (28 + W s 4).toNat s.size ∧ x3 = W s 12 ∧ x4 = W s 16 ∧ x5 = W s 20 ∧ x6 = 0)))) :
    Calls Try.prog 9 #[.string s] w fun e w' => e = .returned (.tuple #[.agg #[.string x1, .string x2, .int .i64 x3, .int .i64 x4, .int .i64 x5], .int .i64 x6]) ∧ Below w.heap.size w w' := by
  have h4 : (4 : Int) ≤ (s.size : Int) := by omega
  go_enter Try.func9, Try.ntmps9
  go_wp2
  go_loopw [23] (fun i wr => ∃ j : Nat, j ≤ 6 ∧ i = .int .i64 j ∧ Aside0 (wr.heap[w.heap.size + 1]? = some (.cells (arr s j) 41 (0, 0))) ∧ Aside0 (wr.heap[w.heap.size]? = some (.cells #[.string ⟨#[]⟩, .string ⟨#[]⟩, .int .i64 0, .int .i64 0, .int .i64 0] 23 (0, 0))) ∧ Aside0 (Below w.heap.size w wr)) (fun i _ => 6 - (intOf i).toNat)
  case atStart =>
    refine ⟨0, by omega, rfl, ⟨?_⟩, ⟨blk_alloc (blk_new w _) _⟩, ⟨below_alloc (below_alloc (Below.refl _ _) _) _⟩⟩
    have := blk_new (w.alloc (Obj.cells #[.string ⟨#[]⟩, .string ⟨#[]⟩, .int .i64 0, .int .i64 0, .int .i64 0] 23)) (Obj.cells #[.int .i64 0, .int .i64 0, .int .i64 0, .int .i64 0, .int .i64 0, .int .i64 0] 41)
    simpa [arr] using this
  case round =>
    obtain ⟨j, hj, rfl, hk, hk0, hbel⟩ := hrel
    by_cases hlt : j < 6
    · have hc0 : wr.cell? ⟨w.heap.size + 1, j, none⟩ = some (.int .i64 0) := (blk_cell hk.out j).trans (arr_at s j hlt)
      have hf0 : wr.frozen? ⟨w.heap.size + 1, j, none⟩ = false := blk_frozen hk.out j
      have hz := World.block_lt_of_cell? _ _ hc0
      have hsl : (4 : Int) + 4 * (j : Int) ≤ (s.size : Int) := by omega
      obtain ⟨b, hb, hbs, x0, x1, x2, x3, hx0, hx1, hx2, hx3, ⟨p0, q0⟩, ⟨p1, q1⟩, ⟨p2, q2⟩, ⟨p3, q3⟩, hW⟩ := rest s j (by omega)
      have hW' := Lib.hid hW; clear hW
      have hb' := Lib.hid hb; clear hb
      go_wp2_with fail
      rw [← hb'.out]
      have t0 : 0 < b.size := by omega
      have t1 : 1 < b.size := by omega
      have t2 : 2 < b.size := by omega
      have t3 : 3 < b.size := by omega
      have s0 : (0 : Int) < (b.size : Int) := by omega
      have s1 : (1 : Int) < (b.size : Int) := by omega
      have s2 : (2 : Int) < (b.size : Int) := by omega
      have s3 : (3 : Int) < (b.size : Int) := by omega
      go_still_tail 20, (by kernel_rfl)
      go_wp2
      rw [or4 x0 x1 x2 x3 p0 q0 p1 q1 p2 q2 p3 q3, hW'.out]
      refine ⟨⟨j + 1, by omega, by go_num, ⟨?_⟩, ⟨?_⟩, ⟨?_⟩⟩, by simp [intOf]; omega⟩
      · rw [← arr_set s j hlt]
        exact blk_drew (blk_set hk.out j _)
      · exact blk_drew (blk_far hk0.out (by simp) _)
      · exact below_drew (hbel.out.setCell (by simp) _)
    · obtain rfl : j = 6 := by omega
      have c0 : wr.cell? ⟨w.heap.size + 1, 0, none⟩ = some (.int .i64 (W s 4)) := blk_cell hk.out 0
      have c1 : wr.cell? ⟨w.heap.size + 1, 1, none⟩ = some (.int .i64 (W s 8)) := blk_cell hk.out 1
      have c2 : wr.cell? ⟨w.heap.size + 1, 2, none⟩ = some (.int .i64 (W s 12)) := blk_cell hk.out 2
      have c3 : wr.cell? ⟨w.heap.size + 1, 3, none⟩ = some (.int .i64 (W s 16)) := blk_cell hk.out 3
      have c4 : wr.cell? ⟨w.heap.size + 1, 4, none⟩ = some (.int .i64 (W s 20)) := blk_cell hk.out 4
      have hz := World.block_lt_of_cell? _ _ c0
      have hz0 : w.heap.size < wr.heap.size := blk_lt hk0.out
      obtain ⟨a0, a1⟩ := W_range s 4
      obtain ⟨a2, a3⟩ := W_range s 8
      have r0 : wr.cell? ⟨w.heap.size, 0, none⟩ = some (.string ⟨#[]⟩) := blk_cell hk0.out 0
      have r1 : wr.cell? ⟨w.heap.size, 1, none⟩ = some (.string ⟨#[]⟩) := blk_cell hk0.out 1
      have r2 : wr.cell? ⟨w.heap.size, 2, none⟩ = some (.int .i64 0) := blk_cell hk0.out 2
      have r3 : wr.cell? ⟨w.heap.size, 3, none⟩ = some (.int .i64 0) := blk_cell hk0.out 3
      have r4 : wr.cell? ⟨w.heap.size, 4, none⟩ = some (.int .i64 0) := blk_cell hk0.out 4
      have g0 : wr.frozen? ⟨w.heap.size, 0, none⟩ = false := blk_frozen hk0.out 0
      have g1 : wr.frozen? ⟨w.heap.size, 1, none⟩ = false := blk_frozen hk0.out 1
      have g2 : wr.frozen? ⟨w.heap.size, 2, none⟩ = false := blk_frozen hk0.out 2
      have g3 : wr.frozen? ⟨w.heap.size, 3, none⟩ = false := blk_frozen hk0.out 3
      have g4 : wr.frozen? ⟨w.heap.size, 4, none⟩ = false := blk_frozen hk0.out 4
      rcases ho with ⟨hno, rfl, rfl, rfl, rfl, rfl, rfl⟩ | ⟨hyes, ho⟩
      · go_wp2
        refine bodyPost_ret (results_ct rfl _ _ w.heap.size 23 #[.string _, .string _, .int .i64 _, .int .i64 _, .int .i64 _] (0, 0) _ rfl (blk_put (blk_put (blk_put (blk_put (blk_put hk0.out 0 _ rfl) 1 _ rfl) 2 _ rfl) 3 _ rfl) 4 _ rfl) Try.underlying23 rfl (by kernel_rfl)) rfl ⟨rfl, ?_⟩
        repeat (with_reducible first | exact hbel.out | refine below_alloc ?_ _ | refine Below.setCell ?_ (by simp) _)
      · have hye := beq_iff_eq.1 hyes
        have hw2 : 28 + W s 4 ≤ (s.size : Int) := by omega
        have hw3 : (28 : Int) ≤ 28 + W s 4 := by omega
        have hw4 : (0 : Int) ≤ 28 + W s 4 := by omega
        have hye' := Lib.hid hye; clear hye
        go_wp2_with fail
        have hwr : IntKind.i64.wrap (28 + W s 4) = 28 + W s 4 := IntWalk.i64_in _ (by omega)
        go_region_held3 (fun w' => w.heap.size + 1 < w'.heap.size ∧ w'.cell? ⟨w.heap.size + 1, 0, none⟩ = some (.int .i64 (W s 4)) ∧ w'.cell? ⟨w.heap.size + 1, 2, none⟩ = some (.int .i64 (W s 12)) ∧ w'.cell? ⟨w.heap.size + 1, 3, none⟩ = some (.int .i64 (W s 16)) ∧ w'.cell? ⟨w.heap.size + 1, 4, none⟩ = some (.int .i64 (W s 20)))
          (first | exact ⟨hz, c0, c2, c3, c4⟩ | go_keep | (simp at hz ⊢; refine ⟨by omega, ?_, ?_, ?_, ?_⟩ <;> simp [World.cell?_alloc_some, *])) (fail)
        clear hwr
        go_wp2_with fail
        refine (hT.out _).mono ?_
        rintro e w1 ⟨rfl, hb⟩
        obtain ⟨hc, hf⟩ := bcell hb
        have hq : wr.heap.size < w1.heap.size := by have := hb.size; simp at this; omega
        have hq0 : w.heap.size < w1.heap.size := by omega
        have hb1 : Aside0 (Below w.heap.size w w1) := ⟨below_then (by repeat (with_reducible first | exact hbel.out | refine below_alloc ?_ _ | refine pw_below_drewN ?_ _ | refine below_drew ?_)) (by simp <;> omega) hb⟩
        have hk1 : Aside0 (w1.heap[w.heap.size]? = some (.cells #[.string ⟨#[]⟩, .string ⟨#[]⟩, .int .i64 0, .int .i64 0, .int .i64 0] 23 (0, 0))) := ⟨blk_below (by repeat (with_reducible first | exact hk0.out | refine blk_alloc ?_ _ | refine blk_drewN ?_ _ | refine blk_drew ?_)) hb⟩
        clear hb
        rcases ho with ⟨q, rfl, rfl, rfl, rfl, rfl, rfl⟩ | ⟨q, q2, rfl, rfl, rfl, rfl, rfl, rfl⟩ | ⟨q, q2, rfl, rfl, rfl, rfl, rfl, rfl⟩
        · have q' : (c != 0) = true := by rw [bne_iff_ne]; exact beq_eq_false_iff_ne.1 q
          go_wp2
          refine bodyPost_ret (results_ct rfl _ _ w.heap.size 23 #[.string _, .string _, .int .i64 _, .int .i64 _, .int .i64 _] (0, 0) _ rfl (blk_put (blk_put (blk_put (blk_put (blk_put hk1.out 0 _ rfl) 1 _ rfl) 2 _ rfl) 3 _ rfl) 4 _ rfl) Try.underlying23 rfl (by kernel_rfl)) rfl ⟨rfl, ?_⟩
          repeat (with_reducible first | exact hb1.out | refine below_alloc ?_ _ | refine Below.setCell ?_ (by simp) _)
        · obtain rfl : c = 0 := beq_iff_eq.1 q
          go_wp2
          refine bodyPost_ret (results_ct rfl _ _ w.heap.size 23 #[.string _, .string _, .int .i64 _, .int .i64 _, .int .i64 _] (0, 0) _ rfl (blk_put (blk_put (blk_put (blk_put (blk_put hk1.out 0 _ rfl) 1 _ rfl) 2 _ rfl) 3 _ rfl) 4 _ rfl) Try.underlying23 rfl (by kernel_rfl)) rfl ⟨rfl, ?_⟩
          repeat (with_reducible first | exact hb1.out | refine below_alloc ?_ _ | refine Below.setCell ?_ (by simp) _)
        · obtain rfl : c = 0 := beq_iff_eq.1 q
          have q3 : (t.toList == s.toList) = true := by rw [show t = s from q2.out]; simp
          go_wp2
          refine bodyPost_ret (results_ct rfl _ _ w.heap.size 23 #[.string _, .string _, .int .i64 _, .int .i64 _, .int .i64 _] (0, 0) _ rfl (blk_put (blk_put (blk_put (blk_put (blk_put hk1.out 0 _ rfl) 1 _ rfl) 2 _ rfl) 3 _ rfl) 4 _ rfl) Try.underlying23 rfl (by kernel_rfl)) rfl ⟨rfl, ?_⟩
          repeat (with_reducible first | exact hb1.out | refine below_alloc ?_ _ | refine Below.setCell ?_ (by simp) _)

end Go.Proofs.Ytbalpmpaccfpiaa.Read
