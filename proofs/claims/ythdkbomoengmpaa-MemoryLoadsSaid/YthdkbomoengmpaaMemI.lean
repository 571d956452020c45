/- The law of a memory that nobody made. -/
import Derived.Test.YthdkbomoengmpaaMemG
namespace Go.Proofs.Ythdkbomoengmpaa.MemA
open Go.RowKit Go.Proofs.YthdkbomoengmpaaW.PrintWords
set_option linter.unusedVariables false
set_option linter.unusedSimpArgs false

set_option maxHeartbeats 8000000 in
set_option maxRecDepth 100000 in
theorem nobody {w : World} (d x : Int) (a : Nat) (s : ByteArray) (ha : a < 4294967296) (hx0 : 0 ≤ x) (hx1 : x ≤ 4294967295) (hsz : s.size ≤ 140737488351232) :
    Calls Try.prog 5 #[.agg #[.int .i64 d, .int .u32 (a : Int), .int .u32 x, .string s]] w (Yes w) := by
  have hbx := Aside0.mk (blk_new w (.cells #[.int .i64 d, .int .u32 (a : Int), .int .u32 x, .string s] 44))
  have hB0 : Aside0 (Below w.heap.size w (w.alloc (.cells #[.int .i64 d, .int .u32 (a : Int), .int .u32 x, .string s] 44))) := ⟨below_alloc (Below.refl _ _) _⟩
  have q4 := fun (p : Value) (w : World) (h : Sz p 0 w) => load4_no (a := a) ⟨h⟩ (by omega) ha (.inr (by omega))
  have q1 := fun (p : Value) (w : World) (h : Sz p 0 w) => load1_no (a := a) ⟨h⟩ (by omega) ha (by omega)
  have qs := fun (p : Value) (w : World) (h : Sz p 0 w) => bytes_no (a := a) 0 ⟨h⟩ (by omega) ha (by omega) (by omega) (.inl rfl)
  have z4 := fun (p : Value) (w : World) (h : Sz p 0 w) => store4_no (a := a) x ⟨h⟩ (by omega) ha (.inr (by omega))
  have z1 := fun (p : Value) (w : World) (h : Sz p 0 w) => store1_no (a := a) x ⟨h⟩ (by omega) ha (by omega)
  have zf := fun (p : Value) (w : World) (h : Sz p 0 w) => fill_no (a := a) s ⟨h⟩ (by omega) ha hsz (.inl rfl)
  have q4 := Aside0.mk q4; have q1 := Aside0.mk q1; have qs := Aside0.mk qs; have z4 := Aside0.mk z4; have z1 := Aside0.mk z1; have zf := Aside0.mk zf
  go_enter Try.func5, Try.ntmps5
  go_wp2
  go_loopw [3] (fun i wr => ∃ j : Nat, j ≤ 2 ∧ i = .int .i64 j ∧ Aside0 (wr.heap[w.heap.size]? = some (.cells #[.int .i64 d, .int .u32 (a : Int), .int .u32 x, .string s] 44 (0, 0))) ∧ Aside0 (Below w.heap.size w wr)) (fun i _ => 2 - (intOf i).toNat)
  case atStart => exact ⟨0, by omega, rfl, hbx, hB0⟩
  case round =>
    obtain ⟨j, hj, rfl, hbx2, hB2⟩ := hrel
    clear hbx hB0
    by_cases hlt : j < 2
    · have hlt' := Aside0.mk (blk_lt hbx2.out)
      obtain rfl | rfl : j = 0 ∨ j = 1 := by omega
      · have c1 : wr.cell? ⟨w.heap.size, 1, none⟩ = some (.int .u32 (a : Int)) := (blk_cell hbx2.out 1).trans rfl
        have c2 : wr.cell? ⟨w.heap.size, 2, none⟩ = some (.int .u32 x) := (blk_cell hbx2.out 2).trans rfl
        have c3 : wr.cell? ⟨w.heap.size, 3, none⟩ = some (.string s) := (blk_cell hbx2.out 3).trans rfl
        have hz := Aside0.mk (size_nil wr)
        go_wp2_with (first | ((with_reducible refine (q4.out _ _ hz.out).mono ?_); rintro e w' ⟨rfl, rfl⟩) | ((with_reducible refine (q1.out _ _ hz.out).mono ?_); rintro e w' ⟨rfl, rfl⟩) | ((with_reducible refine (qs.out _ _ hz.out).mono ?_); rintro e w' ⟨rfl, rfl⟩) | ((with_reducible refine (Sz.call hz.out).mono ?_); rintro e w' ⟨rfl, rfl⟩) | ((with_reducible refine (z4.out _ _ hz.out).mono ?_); rintro e w' ⟨rfl, rfl⟩) | ((with_reducible refine (z1.out _ _ hz.out).mono ?_); rintro e w' ⟨rfl, rfl⟩) | ((with_reducible refine (zf.out _ _ hz.out).mono ?_); rintro e w' ⟨rfl, rfl⟩))
        go_roundw
        case rel => exact ⟨1, by omega, by go_num, hbx2, hB2⟩
        case measure => simp [intOf]
      · have hbx3 := Aside0.mk (blk_alloc hbx2.out (.cells #[.slice none 0 0] 46))
        have hB3 := Aside0.mk (below_alloc hB2.out (.cells #[.slice none 0 0] 46))
        have hn0 := blk_new wr (.cells #[.slice none 0 0] 46)
        have hlw : w.heap.size < wr.heap.size := hlt'.out
        have hz : Aside0 (Sz (.pointer (some ⟨wr.heap.size, 0, none⟩)) 0 (wr.alloc (.cells #[.slice none 0 0] 46))) := ⟨size_empty ((blk_cell hn0 0).trans rfl)⟩
        have c1 : wr.cell? ⟨w.heap.size, 1, none⟩ = some (.int .u32 (a : Int)) := (blk_cell hbx2.out 1).trans rfl
        have c2 : wr.cell? ⟨w.heap.size, 2, none⟩ = some (.int .u32 x) := (blk_cell hbx2.out 2).trans rfl
        have c3 : wr.cell? ⟨w.heap.size, 3, none⟩ = some (.string s) := (blk_cell hbx2.out 3).trans rfl
        clear hn0
        go_wp2_with (first | ((with_reducible refine (q4.out _ _ hz.out).mono ?_); rintro e w' ⟨rfl, rfl⟩) | ((with_reducible refine (q1.out _ _ hz.out).mono ?_); rintro e w' ⟨rfl, rfl⟩) | ((with_reducible refine (qs.out _ _ hz.out).mono ?_); rintro e w' ⟨rfl, rfl⟩) | ((with_reducible refine (Sz.call hz.out).mono ?_); rintro e w' ⟨rfl, rfl⟩) | ((with_reducible refine (z4.out _ _ hz.out).mono ?_); rintro e w' ⟨rfl, rfl⟩) | ((with_reducible refine (z1.out _ _ hz.out).mono ?_); rintro e w' ⟨rfl, rfl⟩) | ((with_reducible refine (zf.out _ _ hz.out).mono ?_); rintro e w' ⟨rfl, rfl⟩))
        go_roundw
        case rel => exact ⟨2, by omega, by go_num, hbx3, hB3⟩
        case measure => simp [intOf]
    · obtain rfl : j = 2 := by omega
      go_wp2_with ((with_reducible refine (awake _).mono ?_); rintro e w' ⟨rfl, hb⟩; have hb := Aside0.mk hb)
      go_ret
      exact ⟨rfl, below_step hB2.out hb.out⟩
end Go.Proofs.Ythdkbomoengmpaa.MemA
