/- An act in both memories; both behind any acts. -/
import Derived.Test.YthdkbomoengmpaaMemD
namespace Go.Proofs.Ythdkbomoengmpaa.MemA
open Go.RowKit Go.Proofs.YthdkbomoengmpaaW.PrintWords
set_option linter.unusedVariables false
set_option linter.unusedSimpArgs false

/-- What an act leaves. -/
def act (b : List Int) (d : Int) (a : Nat) (x : Int) (s : ByteArray) : List Int := if d = 0 then st4 b a x else if d = 1 then st1 b a x else if d = 2 then fil b a s else b
/-- What Play leaves: a right answer, and both memories alike. -/
def Played (g1 h1 g2 h2 : Nat) (b : List Int) (w : World) (e : Ending) (w' : World) : Prop := e = .returned (.bool true) ∧ Two w' g1 h1 g2 h2 b b ∧ Fr h1 h2 w w'

set_option maxHeartbeats 8000000 in
set_option maxRecDepth 100000 in
theorem play0 {w : World} {g1 h1 g2 h2 : Nat} {b : List Int} {a : Nat} (t : Aside0 (Two w g1 h1 g2 h2 b b)) (x : Int) (s : ByteArray) (hx0 : 0 ≤ x) (hx1 : x ≤ 4294967295) (hn : b.length ≤ 262144) (ha : a < 4294967296) :
    Calls Try.prog 20 #[.pointer (some ⟨g1, 0, none⟩), .pointer (some ⟨g2, 0, none⟩), .agg #[.int .i64 0, .int .u32 (a : Int), .int .u32 x, .string s]] w (Played g1 h1 g2 h2 (st4 b a x) w) := by
  have hh1 : Aside0 (h1 < w.heap.size) := ⟨blk_lt t.out.m1.row⟩
  have hh2 : Aside0 (h2 < w.heap.size) := ⟨blk_lt t.out.m2.row⟩
  have hne1 : Aside0 (w.heap.size ≠ h1) := ⟨by have := hh1.out; omega⟩
  have hne2 : Aside0 (w.heap.size ≠ h2) := ⟨by have := hh2.out; omega⟩
  have hT := Aside0.mk (t.out.below (below_alloc (Below.refl _ _) (.cells #[.int .i64 0, .int .u32 (a : Int), .int .u32 x, .string s] 44)))
  have hF : Aside0 (Fr h1 h2 w (w.alloc (.cells #[.int .i64 0, .int .u32 (a : Int), .int .u32 x, .string s] 44))) := ⟨.of_below (below_alloc (Below.refl _ _) _)⟩
  have hbx := Aside0.mk (blk_new w (.cells #[.int .i64 0, .int .u32 (a : Int), .int .u32 x, .string s] 44))
  go_enter Try.func20, Try.ntmps20
  go_wp2_with fail
  generalize hW : w.alloc (.cells #[.int .i64 0, .int .u32 (a : Int), .int .u32 x, .string s] 44) = W at *
  have c1 : W.cell? ⟨w.heap.size, 1, none⟩ = some (.int .u32 (a : Int)) := (blk_cell hbx.out 1).trans rfl
  have c2 : W.cell? ⟨w.heap.size, 2, none⟩ = some (.int .u32 x) := (blk_cell hbx.out 2).trans rfl
  have hTd : Aside0 (Two W.drew g1 h1 g2 h2 b b) := ⟨hT.out.m1.drew, hT.out.m2.drew, hT.out.d1, hT.out.d2, hT.out.d3⟩
  have hFd : Aside0 (Fr h1 h2 w W.drew) := ⟨hF.out.trans (.drew _ _ _)⟩
  clear hW
  go_region_held3 (fun w' => w'.cell? ⟨w.heap.size, 1, none⟩ = some (.int .u32 (a : Int)) ∧ w'.cell? ⟨w.heap.size, 2, none⟩ = some (.int .u32 x))
    (first | exact ⟨c1, c2⟩ | (go_split_ands; exact ⟨Fr.cell (‹Aside0 (Fr h1 h2 _ _)›).out (by assumption) hne1.out hne2.out, Fr.cell (‹Aside0 (Fr h1 h2 _ _)›).out (by assumption) hne1.out hne2.out⟩))
    (first | (go_at_call 15; refine (p4 (by assumption) x hx0 hx1 hn ha).mono ?_; rintro e w' ⟨rfl, hT1, hF1⟩) | (go_at_call 23; refine (r4 (by assumption) x hx0 hx1 hn ha).mono ?_; rintro e w' ⟨rfl, hT2, hF2⟩))
  all_goals
    go_wp2
    go_ret
    exact ⟨by first | rfl | (simp; done), by first | exact hT2.out | exact hT1.out, by first | exact hFd.out.trans (hF1.out.trans hF2.out) | exact hFd.out.trans (hF2.out.trans hF1.out)⟩
set_option maxHeartbeats 8000000 in
set_option maxRecDepth 100000 in
theorem play1 {w : World} {g1 h1 g2 h2 : Nat} {b : List Int} {a : Nat} (t : Aside0 (Two w g1 h1 g2 h2 b b)) (x : Int) (s : ByteArray) (hx0 : 0 ≤ x) (hx1 : x ≤ 4294967295) (hn : b.length ≤ 262144) (ha : a < 4294967296) :
    Calls Try.prog 20 #[.pointer (some ⟨g1, 0, none⟩), .pointer (some ⟨g2, 0, none⟩), .agg #[.int .i64 1, .int .u32 (a : Int), .int .u32 x, .string s]] w (Played g1 h1 g2 h2 (st1 b a x) w) := by
  have hh1 : Aside0 (h1 < w.heap.size) := ⟨blk_lt t.out.m1.row⟩
  have hh2 : Aside0 (h2 < w.heap.size) := ⟨blk_lt t.out.m2.row⟩
  have hne1 : Aside0 (w.heap.size ≠ h1) := ⟨by have := hh1.out; omega⟩
  have hne2 : Aside0 (w.heap.size ≠ h2) := ⟨by have := hh2.out; omega⟩
  have hT := Aside0.mk (t.out.below (below_alloc (Below.refl _ _) (.cells #[.int .i64 1, .int .u32 (a : Int), .int .u32 x, .string s] 44)))
  have hF : Aside0 (Fr h1 h2 w (w.alloc (.cells #[.int .i64 1, .int .u32 (a : Int), .int .u32 x, .string s] 44))) := ⟨.of_below (below_alloc (Below.refl _ _) _)⟩
  have hbx := Aside0.mk (blk_new w (.cells #[.int .i64 1, .int .u32 (a : Int), .int .u32 x, .string s] 44))
  go_enter Try.func20, Try.ntmps20
  go_wp2_with fail
  generalize hW : w.alloc (.cells #[.int .i64 1, .int .u32 (a : Int), .int .u32 x, .string s] 44) = W at *
  have c1 : W.cell? ⟨w.heap.size, 1, none⟩ = some (.int .u32 (a : Int)) := (blk_cell hbx.out 1).trans rfl
  have c2 : W.cell? ⟨w.heap.size, 2, none⟩ = some (.int .u32 x) := (blk_cell hbx.out 2).trans rfl
  have hTd : Aside0 (Two W.drew g1 h1 g2 h2 b b) := ⟨hT.out.m1.drew, hT.out.m2.drew, hT.out.d1, hT.out.d2, hT.out.d3⟩
  have hFd : Aside0 (Fr h1 h2 w W.drew) := ⟨hF.out.trans (.drew _ _ _)⟩
  clear hW
  go_region_held3 (fun w' => w'.cell? ⟨w.heap.size, 1, none⟩ = some (.int .u32 (a : Int)) ∧ w'.cell? ⟨w.heap.size, 2, none⟩ = some (.int .u32 x))
    (first | exact ⟨c1, c2⟩ | (go_split_ands; exact ⟨Fr.cell (‹Aside0 (Fr h1 h2 _ _)›).out (by assumption) hne1.out hne2.out, Fr.cell (‹Aside0 (Fr h1 h2 _ _)›).out (by assumption) hne1.out hne2.out⟩))
    (first | (go_at_call 16; refine (p1 (by assumption) x hx0 hx1 hn ha).mono ?_; rintro e w' ⟨rfl, hT1, hF1⟩) | (go_at_call 24; refine (r1 (by assumption) x hx0 hx1 hn ha).mono ?_; rintro e w' ⟨rfl, hT2, hF2⟩))
  all_goals
    go_wp2
    go_ret
    exact ⟨by first | rfl | (simp; done), by first | exact hT2.out | exact hT1.out, by first | exact hFd.out.trans (hF1.out.trans hF2.out) | exact hFd.out.trans (hF2.out.trans hF1.out)⟩
set_option maxHeartbeats 8000000 in
set_option maxRecDepth 100000 in
theorem play2 {w : World} {g1 h1 g2 h2 : Nat} {b : List Int} {a : Nat} (t : Aside0 (Two w g1 h1 g2 h2 b b)) (x : Int) (s : ByteArray) (hsz : s.size ≤ 140737488351232) (h0 : Aside0 (b.length ≠ 0)) (hn : b.length ≤ 262144) (ha : a < 4294967296) :
    Calls Try.prog 20 #[.pointer (some ⟨g1, 0, none⟩), .pointer (some ⟨g2, 0, none⟩), .agg #[.int .i64 2, .int .u32 (a : Int), .int .u32 x, .string s]] w (Played g1 h1 g2 h2 (fil b a s) w) := by
  have hh1 : Aside0 (h1 < w.heap.size) := ⟨blk_lt t.out.m1.row⟩
  have hh2 : Aside0 (h2 < w.heap.size) := ⟨blk_lt t.out.m2.row⟩
  have hne1 : Aside0 (w.heap.size ≠ h1) := ⟨by have := hh1.out; omega⟩
  have hne2 : Aside0 (w.heap.size ≠ h2) := ⟨by have := hh2.out; omega⟩
  have hT := Aside0.mk (t.out.below (below_alloc (Below.refl _ _) (.cells #[.int .i64 2, .int .u32 (a : Int), .int .u32 x, .string s] 44)))
  have hF : Aside0 (Fr h1 h2 w (w.alloc (.cells #[.int .i64 2, .int .u32 (a : Int), .int .u32 x, .string s] 44))) := ⟨.of_below (below_alloc (Below.refl _ _) _)⟩
  have hbx := Aside0.mk (blk_new w (.cells #[.int .i64 2, .int .u32 (a : Int), .int .u32 x, .string s] 44))
  go_enter Try.func20, Try.ntmps20
  go_wp2_with fail
  generalize hW : w.alloc (.cells #[.int .i64 2, .int .u32 (a : Int), .int .u32 x, .string s] 44) = W at *
  have c1 : W.cell? ⟨w.heap.size, 1, none⟩ = some (.int .u32 (a : Int)) := (blk_cell hbx.out 1).trans rfl
  have c2 : W.cell? ⟨w.heap.size, 3, none⟩ = some (.string s) := (blk_cell hbx.out 3).trans rfl
  have hTd : Aside0 (Two W.drew g1 h1 g2 h2 b b) := ⟨hT.out.m1.drew, hT.out.m2.drew, hT.out.d1, hT.out.d2, hT.out.d3⟩
  have hFd : Aside0 (Fr h1 h2 w W.drew) := ⟨hF.out.trans (.drew _ _ _)⟩
  clear hW
  go_region_held3 (fun w' => w'.cell? ⟨w.heap.size, 1, none⟩ = some (.int .u32 (a : Int)) ∧ w'.cell? ⟨w.heap.size, 3, none⟩ = some (.string s))
    (first | exact ⟨c1, c2⟩ | (go_split_ands; exact ⟨Fr.cell (‹Aside0 (Fr h1 h2 _ _)›).out (by assumption) hne1.out hne2.out, Fr.cell (‹Aside0 (Fr h1 h2 _ _)›).out (by assumption) hne1.out hne2.out⟩))
    (first | (go_at_call 17; refine (pf (by assumption) s hsz hn h0.out ha).mono ?_; rintro e w' ⟨rfl, hT1, hF1⟩) | (go_at_call 25; refine (rf (by assumption) s hsz hn ha).mono ?_; rintro e w' ⟨rfl, hT2, hF2⟩))
  all_goals
    go_wp2
    go_ret
    exact ⟨by first | rfl | (simp; done), by first | exact hT2.out | exact hT1.out, by first | exact hFd.out.trans (hF1.out.trans hF2.out) | exact hFd.out.trans (hF2.out.trans hF1.out)⟩
set_option maxHeartbeats 8000000 in
set_option maxRecDepth 100000 in
theorem play3 {w : World} {g1 h1 g2 h2 : Nat} {b : List Int} {a : Nat} (t : Aside0 (Two w g1 h1 g2 h2 b b)) (d x : Int) (s : ByteArray) (e0 : (d == 0) = false) (e1 : (d == 1) = false) (e2 : (d == 2) = false) :
    Calls Try.prog 20 #[.pointer (some ⟨g1, 0, none⟩), .pointer (some ⟨g2, 0, none⟩), .agg #[.int .i64 d, .int .u32 (a : Int), .int .u32 x, .string s]] w (Played g1 h1 g2 h2 b w) := by
  go_enter Try.func20, Try.ntmps20
  go_wp2
  go_ret
  exact ⟨rfl, t.out.below (below_alloc (Below.refl _ _) _), .of_below (below_alloc (Below.refl _ _) _)⟩
theorem play {w : World} {g1 h1 g2 h2 : Nat} {b : List Int} {a : Nat} (t : Aside0 (Two w g1 h1 g2 h2 b b)) (d x : Int) (s : ByteArray) (hx0 : 0 ≤ x) (hx1 : x ≤ 4294967295) (hsz : s.size ≤ 140737488351232) (hn : b.length ≤ 262144) (h0 : b.length ≠ 0) (ha : a < 4294967296) :
    Calls Try.prog 20 #[.pointer (some ⟨g1, 0, none⟩), .pointer (some ⟨g2, 0, none⟩), .agg #[.int .i64 d, .int .u32 (a : Int), .int .u32 x, .string s]] w (Played g1 h1 g2 h2 (act b d a x s) w) := by
  unfold act
  by_cases e0 : d = 0
  · subst e0; rw [if_pos rfl]; exact play0 t x s hx0 hx1 hn ha
  rw [if_neg e0]
  by_cases e1 : d = 1
  · subst e1; rw [if_pos rfl]; exact play1 t x s hx0 hx1 hn ha
  rw [if_neg e1]
  by_cases e2 : d = 2
  · subst e2; rw [if_pos rfl]; exact play2 t x s hsz ⟨h0⟩ hn ha
  rw [if_neg e2]
  exact play3 t d x s (by simpa using e0) (by simpa using e1) (by simpa using e2)
end Go.Proofs.Ythdkbomoengmpaa.MemA
