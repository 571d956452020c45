/- The reference's machine: New. -/
import Derived.Test.YtbhkfdjofopfkaaRaA
namespace Go.Proofs.Ytbhkfdjofopfkaa.MemA
open Go.RowKit Go.Proofs.YtbhkfdjofopfkaaW.PrintWords Go.Proofs.YtbhkfdjofopfkaaW.PrintLast
set_option linter.unusedVariables false
set_option linter.unusedSimpArgs false
set_option maxHeartbeats 8000000 in
set_option maxRecDepth 100000 in
theorem rnew_bad (c d : ByteArray) (g e f : Int) (inp : ByteArray) (w : World) (hi : inp.size ≤ 9223372036854775807) (h : mayI c d g e f = false) :
    Calls Try.prog 21 #[imV c d g e f, .string inp] w fun e' w' => e' = .returned (.tuple #[.pointer none, .int .i64 1]) ∧ Below w.heap.size w w' := by
  have hc := fun W => Aside0.mk (mayR c d g e f W)
  have he : Aside0 (mayI c d g e f = false) := ⟨h⟩
  have hb : Aside0 (Below w.heap.size w (w.alloc (.cells #[.string c, .string d, .int .i64 g, .int .i64 e, .int .i64 f] 23))) := ⟨below_alloc (Below.refl _ _) _⟩
  clear h
  go_enter Try.func21, Try.ntmps21
  go_wp2_with (go_at_call 30; (with_reducible refine (hc _).out.mono ?_); rw [he.out]; rintro e' w1 ⟨rfl, hb1⟩; replace hb1 := Aside0.mk hb1)
  go_ret2
  exact ⟨rfl, below_step hb.out hb1.out⟩
set_option maxHeartbeats 8000000 in
set_option maxRecDepth 100000 in
theorem rnew_long (c d : ByteArray) (g e f : Int) (inp : ByteArray) (w : World) (hi : inp.size ≤ 9223372036854775807) (h : mayI c d g e f = true) (hl : 1048576 < inp.size) :
    Calls Try.prog 21 #[imV c d g e f, .string inp] w fun e' w' => e' = .returned (.tuple #[.pointer none, .int .i64 3]) ∧ Below w.heap.size w w' := by
  have hc := fun W => Aside0.mk (mayR c d g e f W)
  have he : Aside0 (mayI c d g e f = true) := ⟨h⟩
  have hb : Aside0 (Below w.heap.size w (w.alloc (.cells #[.string c, .string d, .int .i64 g, .int .i64 e, .int .i64 f] 23))) := ⟨below_alloc (Below.refl _ _) _⟩
  clear h
  go_enter Try.func21, Try.ntmps21
  go_wp2_with (go_at_call 30; (with_reducible refine (hc _).out.mono ?_); rw [he.out]; rintro e' w1 ⟨rfl, hb1⟩; replace hb1 := Aside0.mk hb1)
  go_ret2
  exact ⟨rfl, below_step hb.out hb1.out⟩
theorem rnewMem (w : World) : Calls Try.prog 38 #[.int .i64 262144] w (Made 63 262144 w) := rnew_yes (n := 262144) (by omega) (by omega)
theorem rfillP {w : World} {g h : Nat} {b : List Int} (m : Aside0 (Mem 63 w g h b)) (s : ByteArray) (hn : b.length ≤ 262144) (h0 : b.length ≠ 0) (hlt : s.size ≤ b.length) :
    Calls Try.prog 39 #[.pointer (some ⟨g, 0, none⟩), .int .u32 0, .string s] w fun e w' => e = .returned (.int .i64 0) ∧ Mem 63 w' g h (lay b 0 (bytesOf s)) ∧ Below (min h w.heap.size) w w' :=
  (rfill_yes m (a := 0) s hn (by omega) (by omega) (by omega)).mono fun e w' ⟨h1, h2, h3⟩ => ⟨h1, h2, (Fr.of_grown1 h3).below (Nat.min_le_right _ _) (fun k hk hkh => by subst hkh; exact absurd hk (by have := Nat.min_le_left k w.heap.size; omega))⟩
/-- A machine was made. -/
def NewR (s : Mc) (w : World) (e : Ending) (w' : World) : Prop := ∃ g gm h, e = .returned (.tuple #[PM g, .int .i64 0]) ∧ RW w' (h + 1) g gm h (.slice none 0 0) s ∧ w.heap.size ≤ g ∧ w.heap.size ≤ gm ∧ w.heap.size ≤ h ∧ Below w.heap.size w w'
set_option maxHeartbeats 8000000 in
set_option maxRecDepth 100000 in
theorem rnew_good (c d : ByteArray) (g e f : Int) (inp : ByteArray) (w : World) (h : mayI c d g e f = true) (hl : inp.size ≤ 1048576) :
    Calls Try.prog 21 #[imV c d g e f, .string inp] w (NewR (Mc.init c d g e f inp) w) := by
  have hc := fun W => Aside0.mk (mayR c d g e f W)
  have he : Aside0 (mayI c d g e f = true) := ⟨h⟩
  have hok := Aside0.mk (init_ok (inp := inp) h hl)
  have hds : d.size ≤ 65536 := by simp only [mayI, decide_eq_true_eq] at h; omega
  have hb : Aside0 (Below w.heap.size w (w.alloc (.cells #[.string c, .string d, .int .i64 g, .int .i64 e, .int .i64 f] 23))) := ⟨below_alloc (Below.refl _ _) _⟩
  have hr : Aside0 ((w.alloc (.cells #[.string c, .string d, .int .i64 g, .int .i64 e, .int .i64 f] 23)).heap[w.heap.size]? = some (.cells #[.string c, .string d, .int .i64 g, .int .i64 e, .int .i64 f] 23 (0, 0))) := ⟨blk_new w _⟩
  clear h
  go_enter Try.func21, Try.ntmps21
  go_upto_region 5 with (go_at_call 30; (with_reducible refine (hc _).out.mono ?_); rw [he.out]; rintro e' w1 ⟨rfl, hb1⟩; replace hb1 := Aside0.mk hb1)
  have hB1 : Aside0 (Below w.heap.size w w1) := ⟨below_step hb.out hb1.out⟩
  have hr1 : Aside0 (w1.heap[w.heap.size]? = some (.cells #[.string c, .string d, .int .i64 g, .int .i64 e, .int .i64 f] 23 (0, 0))) := ⟨blk_below hr.out hb1.out⟩
  clear hb hr hb1
  go_upto_region 6 with (go_at_call 38; refine (rnewMem _).mono ?_; rintro e' w2 ⟨gm, hm, rfl, m2, hgm, hhm, hb2⟩; replace m2 := Aside0.mk m2; replace hb2 := Aside0.mk hb2; replace hgm := Aside0.mk hgm; replace hhm := Aside0.mk hhm)
  have hB2 : Aside0 (Below w.heap.size w w2) := ⟨below_step hB1.out hb2.out⟩
  have hr2 : Aside0 (w2.heap[w.heap.size]? = some (.cells #[.string c, .string d, .int .i64 g, .int .i64 e, .int .i64 f] 23 (0, 0))) := ⟨blk_below hr1.out hb2.out⟩
  have hlt := blk_lt hr1.out
  have hs1 : w.heap.size ≤ w1.heap.size := hB1.out.size
  have z1 := (blk_cell hr2.out 1).trans (show _ = some (.string d) from rfl)
  clear hB1 hr1 hb2
  go_upto_region 7 with (go_at_call 39; (with_reducible refine (rfillP m2 d (by rw [List.length_replicate]; omega) (by rw [List.length_replicate]; omega) (by rw [List.length_replicate]; omega)).mono ?_); rintro e' w3 ⟨rfl, m3, hb3⟩; replace m3 := Aside0.mk m3; replace hb3 := Aside0.mk hb3)
  have hB3 : Aside0 (Below w.heap.size w w3) := ⟨hB2.out.trans (hb3.out.mono (by have := hhm.out; have := hB2.out.size; omega))⟩
  have hr3 : Aside0 (w3.heap[w.heap.size]? = some (.cells #[.string c, .string d, .int .i64 g, .int .i64 e, .int .i64 f] 23 (0, 0))) := ⟨(hb3.out.block _ (by have := hhm.out; have := blk_lt hr2.out; omega)).trans hr2.out⟩
  have y0 := (blk_cell hr3.out 0).trans (show _ = some (.string c) from rfl)
  have y1 := (blk_cell hr3.out 1).trans (show _ = some (.string d) from rfl)
  have y2 := (blk_cell hr3.out 2).trans (show _ = some (.int .i64 g) from rfl)
  have y3 := (blk_cell hr3.out 3).trans (show _ = some (.int .i64 e) from rfl)
  have y4 := (blk_cell hr3.out 4).trans (show _ = some (.int .i64 f) from rfl)
  clear z1 hB2 hr2 hb3 m2
  have hgl := blk_lt m3.out.cell
  have hhl := blk_lt m3.out.row
  have hgm2 := hgm.out
  have hhm2 := hhm.out
  go_wp2_with fail
  go_ret2
  refine ⟨w3.heap.size, gm, hm, rfl, ⟨?_, ?_, Kd.R_nil _ _ _ _ _, Nat.lt_succ_self _, hok.out⟩, by have := hB3.out.size; omega, by omega, by omega, ?_⟩
  · exact blk_new w3 _
  · exact m3.out.below (below_alloc (Below.refl _ _) _)
  · exact below_alloc hB3.out _
end Go.Proofs.Ytbhkfdjofopfkaa.MemA
