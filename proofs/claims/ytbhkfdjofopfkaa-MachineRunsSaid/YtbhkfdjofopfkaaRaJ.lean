/- The reference's machine: Run. -/
import Derived.Test.YtbhkfdjofopfkaaRaI
namespace Go.Proofs.Ytbhkfdjofopfkaa.MemA
open Go.RowKit Go.Proofs.YtbhkfdjofopfkaaW.PrintWords Go.Proofs.YtbhkfdjofopfkaaW.PrintLast
set_option linter.unusedVariables false
set_option linter.unusedSimpArgs false
set_option maxHeartbeats 8000000 in
set_option maxRecDepth 100000 in
theorem rrun_good (c d : ByteArray) (g e f : Int) (inp : ByteArray) (n : Nat) (w : World) (h : mayI c d g e f = true) (hl : inp.size ≤ 1048576) (hn : n ≤ 549755813888) :
    Calls Try.prog 10 #[imV c d g e f, .string inp, .int .i64 (n : Int)] w (RunP ((Mc.init c d g e f inp).stepN n).endV 0 w) := by
  have hnew := fun W => Aside0.mk (rnew_good c d g e f inp W h hl)
  have hout : Aside0 ((Mc.init c d g e f inp).out.length = 0) := ⟨rfl⟩
  have hid : Aside0 (Idle (Mc.init c d g e f inp)) := ⟨fun _ => ⟨rfl, rfl⟩⟩
  generalize Mc.init c d g e f inp = s at *
  have hb : Aside0 (Below w.heap.size w ((w.alloc (.cells #[.string c, .string d, .int .i64 g, .int .i64 e, .int .i64 f] 23)).alloc (.cells #[.int .i64 0, .int .i32 0, .int .i64 0, .string ⟨#[]⟩, .int .i64 0] 25))) := ⟨below_alloc (below_alloc (Below.refl _ _) _) _⟩
  have hr : Aside0 (((w.alloc (.cells #[.string c, .string d, .int .i64 g, .int .i64 e, .int .i64 f] 23)).alloc (.cells #[.int .i64 0, .int .i32 0, .int .i64 0, .string ⟨#[]⟩, .int .i64 0] 25)).heap[w.heap.size + 1]? = some (.cells #[.int .i64 0, .int .i32 0, .int .i64 0, .string ⟨#[]⟩, .int .i64 0] 25 (0, 0))) := ⟨by have := blk_new (w.alloc (.cells #[.string c, .string d, .int .i64 g, .int .i64 e, .int .i64 f] 23)) (.cells #[.int .i64 0, .int .i32 0, .int .i64 0, .string ⟨#[]⟩, .int .i64 0] 25); simpa using this⟩
  clear h
  go_enter Try.func10, Try.ntmps10
  have q0 : (0 : Int) ≤ (n : Int) := by omega
  go_upto_region 2 with (go_at_call 21; (with_reducible refine (hnew _).out.mono ?_); rintro e' w1 hN; obtain ⟨g1, gm, hh, rfl, W0⟩ := hN.way; clear hN; replace W0 := Aside0.mk W0)
  generalize (w.alloc (.cells #[.string c, .string d, .int .i64 g, .int .i64 e, .int .i64 f] 23)).alloc (.cells #[.int .i64 0, .int .i32 0, .int .i64 0, .string ⟨#[]⟩, .int .i64 0] 25) = W at *
  go_wp2_with fail
  go_loopw [10] (fun i wr => ∃ k : Nat, i = .int .i64 k ∧ k ≤ n ∧ Aside0 (WayR s g1 gm hh W k wr)) (fun i _ => n - (intOf i).toNat)
  case atStart => exact ⟨0, rfl, Nat.zero_le _, W0⟩
  case round =>
    obtain ⟨k, rfl, hk, hW⟩ := hrel
    by_cases hlt : k < n
    · cases he : (s.stepN k).ended
      · have hst := Aside0.mk (hW.out.step he (by have := hout.out; omega))
        have ov : wr.cell? ⟨g1, 24, none⟩ = some (.bool false) := hW.out.over.trans (by rw [he])
        have b1 : decide ((k : Int) < (n : Int)) = true := decide_eq_true (by omega)
        have b2 : decide (k < n) = true := decide_eq_true hlt
        clear he
        go_wp2_with (go_at_call 23; (with_reducible refine hst.out.mono ?_); rintro e' w2 ⟨rfl, hW2⟩; replace hW2 := Aside0.mk hW2)
        go_roundw
        case rel => exact ⟨k + 1, by go_num, by omega, hW2⟩
        case measure => simp [intOf]; omega
      · have ov : wr.cell? ⟨g1, 24, none⟩ = some (.bool true) := hW.out.over.trans (by rw [he])
        have b1 : decide ((k : Int) < (n : Int)) = true := decide_eq_true (by omega)
        have b2 : decide (k < n) = true := decide_eq_true hlt
        have hen := Aside0.mk (stepN_ended he n hk)
        clear he
        obtain ⟨a1, a2, a3, a4, a5, hE⟩ := endV_agg (s.stepN k)
        replace hE := Aside0.mk hE
        go_wp2_with (go_at_call 25; (with_reducible refine (hW.out.endA hid.out hE.out).mono ?_); rintro e' w3 ⟨rfl, hb3⟩; have hb9 : Aside0 (Below W.heap.size W w3) := ⟨below_step hW.out.bel hb3⟩; have hr9 : Aside0 (w3.heap[w.heap.size + 1]? = some (.cells #[.int .i64 0, .int .i32 0, .int .i64 0, .string ⟨#[]⟩, .int .i64 0] 25 (0, 0))) := ⟨blk_below hr.out hb9.out⟩; have hB9 : Aside0 (Below w.heap.size w w3) := ⟨below_step hb.out hb9.out⟩; obtain ⟨z0, z1, z2, z3, z4, zf⟩ := zs_of hr9.out; have f0 := zf 0; have f1 := zf 1; have f2 := zf 2; have f3 := zf 3; have f4 := zf 4; clear zf hb3)
        exact bodyPost_ret (results_ct rfl _ _ (w.heap.size + 1) 25 #[.int .i64 a1, .int .i32 a2, .int .i64 a3, .string a4, .int .i64 a5] (0, 0) _ rfl (end_put hr9.out a1 a2 a3 a4 a5) Try.underlying25 rfl (by kernel_rfl)) rfl ⟨by rw [hen.out, hE.out]; rfl, below_set (below_set (below_set (below_set (below_set hB9.out (Nat.le_succ _)) (Nat.le_succ _)) (Nat.le_succ _)) (Nat.le_succ _)) (Nat.le_succ _)⟩
    · obtain rfl : k = n := by omega
      clear hlt
      have b1 : decide ((k : Int) < (k : Int)) = false := decide_eq_false (by omega)
      have b2 : decide (k < k) = false := decide_eq_false (by omega)
      obtain ⟨a1, a2, a3, a4, a5, hE⟩ := endV_agg (s.stepN k)
      replace hE := Aside0.mk hE
      go_wp2_with (go_at_call 25; (with_reducible refine (hW.out.endA hid.out hE.out).mono ?_); rintro e' w3 ⟨rfl, hb3⟩; have hb9 : Aside0 (Below W.heap.size W w3) := ⟨below_step hW.out.bel hb3⟩; have hr9 : Aside0 (w3.heap[w.heap.size + 1]? = some (.cells #[.int .i64 0, .int .i32 0, .int .i64 0, .string ⟨#[]⟩, .int .i64 0] 25 (0, 0))) := ⟨blk_below hr.out hb9.out⟩; have hB9 : Aside0 (Below w.heap.size w w3) := ⟨below_step hb.out hb9.out⟩; obtain ⟨z0, z1, z2, z3, z4, zf⟩ := zs_of hr9.out; have f0 := zf 0; have f1 := zf 1; have f2 := zf 2; have f3 := zf 3; have f4 := zf 4; clear zf hb3)
      exact bodyPost_ret (results_ct rfl _ _ (w.heap.size + 1) 25 #[.int .i64 a1, .int .i32 a2, .int .i64 a3, .string a4, .int .i64 a5] (0, 0) _ rfl (end_put hr9.out a1 a2 a3 a4 a5) Try.underlying25 rfl (by kernel_rfl)) rfl ⟨by rw [hE.out]; rfl, below_set (below_set (below_set (below_set (below_set hB9.out (Nat.le_succ _)) (Nat.le_succ _)) (Nat.le_succ _)) (Nat.le_succ _)) (Nat.le_succ _)⟩
set_option maxHeartbeats 8000000 in
set_option maxRecDepth 100000 in
theorem rrun_bad (c d : ByteArray) (g e f : Int) (inp : ByteArray) (n : Int) (w : World) (hi : inp.size ≤ 9223372036854775807) (h : mayI c d g e f = false) :
    Calls Try.prog 10 #[imV c d g e f, .string inp, .int .i64 n] w (RunP zEnd 1 w) := by
  have hnew := fun W => Aside0.mk (rnew_bad c d g e f inp W hi h)
  have hb : Aside0 (Below w.heap.size w ((w.alloc (.cells #[.string c, .string d, .int .i64 g, .int .i64 e, .int .i64 f] 23)).alloc (.cells #[.int .i64 0, .int .i32 0, .int .i64 0, .string ⟨#[]⟩, .int .i64 0] 25))) := ⟨below_alloc (below_alloc (Below.refl _ _) _) _⟩
  have hr : Aside0 (((w.alloc (.cells #[.string c, .string d, .int .i64 g, .int .i64 e, .int .i64 f] 23)).alloc (.cells #[.int .i64 0, .int .i32 0, .int .i64 0, .string ⟨#[]⟩, .int .i64 0] 25)).heap[w.heap.size + 1]? = some (.cells #[.int .i64 0, .int .i32 0, .int .i64 0, .string ⟨#[]⟩, .int .i64 0] 25 (0, 0))) := ⟨by have := blk_new (w.alloc (.cells #[.string c, .string d, .int .i64 g, .int .i64 e, .int .i64 f] 23)) (.cells #[.int .i64 0, .int .i32 0, .int .i64 0, .string ⟨#[]⟩, .int .i64 0] 25); simpa using this⟩
  clear h
  go_enter Try.func10, Try.ntmps10
  go_upto_region 2 with (go_at_call 21; (with_reducible refine (hnew _).out.mono ?_); rintro e' w1 ⟨rfl, hb1⟩; replace hb1 := Aside0.mk hb1)
  generalize ((w.alloc (.cells #[.string c, .string d, .int .i64 g, .int .i64 e, .int .i64 f] 23)).alloc (.cells #[.int .i64 0, .int .i32 0, .int .i64 0, .string ⟨#[]⟩, .int .i64 0] 25)) = W at *
  have hr9 : Aside0 (w1.heap[w.heap.size + 1]? = some (.cells #[.int .i64 0, .int .i32 0, .int .i64 0, .string ⟨#[]⟩, .int .i64 0] 25 (0, 0))) := ⟨blk_below hr.out hb1.out⟩
  have hB9 : Aside0 (Below w.heap.size w w1) := ⟨below_step hb.out hb1.out⟩
  obtain ⟨z0, z1, z2, z3, z4, zf⟩ := zs_of hr9.out
  have f0 := zf 0
  have f1 := zf 1
  have f2 := zf 2
  have f3 := zf 3
  have f4 := zf 4
  clear zf hr hb
  go_wp2_with fail
  exact bodyPost_ret (results_ct rfl _ _ (w.heap.size + 1) 25 #[.int .i64 0, .int .i32 0, .int .i64 0, .string ⟨#[]⟩, .int .i64 0] (0, 0) _ rfl (end_put hr9.out 0 0 0 ⟨#[]⟩ 0) Try.underlying25 rfl (by kernel_rfl)) rfl ⟨rfl, below_set (below_set (below_set (below_set (below_set hB9.out (Nat.le_succ _)) (Nat.le_succ _)) (Nat.le_succ _)) (Nat.le_succ _)) (Nat.le_succ _)⟩
set_option maxHeartbeats 8000000 in
set_option maxRecDepth 100000 in
theorem rrun_long (c d : ByteArray) (g e f : Int) (inp : ByteArray) (n : Int) (w : World) (hi : inp.size ≤ 9223372036854775807) (h : mayI c d g e f = true) (hl : 1048576 < inp.size) :
    Calls Try.prog 10 #[imV c d g e f, .string inp, .int .i64 n] w (RunP zEnd 3 w) := by
  have hnew := fun W => Aside0.mk (rnew_long c d g e f inp W hi h hl)
  have hb : Aside0 (Below w.heap.size w ((w.alloc (.cells #[.string c, .string d, .int .i64 g, .int .i64 e, .int .i64 f] 23)).alloc (.cells #[.int .i64 0, .int .i32 0, .int .i64 0, .string ⟨#[]⟩, .int .i64 0] 25))) := ⟨below_alloc (below_alloc (Below.refl _ _) _) _⟩
  have hr : Aside0 (((w.alloc (.cells #[.string c, .string d, .int .i64 g, .int .i64 e, .int .i64 f] 23)).alloc (.cells #[.int .i64 0, .int .i32 0, .int .i64 0, .string ⟨#[]⟩, .int .i64 0] 25)).heap[w.heap.size + 1]? = some (.cells #[.int .i64 0, .int .i32 0, .int .i64 0, .string ⟨#[]⟩, .int .i64 0] 25 (0, 0))) := ⟨by have := blk_new (w.alloc (.cells #[.string c, .string d, .int .i64 g, .int .i64 e, .int .i64 f] 23)) (.cells #[.int .i64 0, .int .i32 0, .int .i64 0, .string ⟨#[]⟩, .int .i64 0] 25); simpa using this⟩
  clear h
  go_enter Try.func10, Try.ntmps10
  go_upto_region 2 with (go_at_call 21; (with_reducible refine (hnew _).out.mono ?_); rintro e' w1 ⟨rfl, hb1⟩; replace hb1 := Aside0.mk hb1)
  generalize ((w.alloc (.cells #[.string c, .string d, .int .i64 g, .int .i64 e, .int .i64 f] 23)).alloc (.cells #[.int .i64 0, .int .i32 0, .int .i64 0, .string ⟨#[]⟩, .int .i64 0] 25)) = W at *
  have hr9 : Aside0 (w1.heap[w.heap.size + 1]? = some (.cells #[.int .i64 0, .int .i32 0, .int .i64 0, .string ⟨#[]⟩, .int .i64 0] 25 (0, 0))) := ⟨blk_below hr.out hb1.out⟩
  have hB9 : Aside0 (Below w.heap.size w w1) := ⟨below_step hb.out hb1.out⟩
  obtain ⟨z0, z1, z2, z3, z4, zf⟩ := zs_of hr9.out
  have f0 := zf 0
  have f1 := zf 1
  have f2 := zf 2
  have f3 := zf 3
  have f4 := zf 4
  clear zf hr hb
  go_wp2_with fail
  exact bodyPost_ret (results_ct rfl _ _ (w.heap.size + 1) 25 #[.int .i64 0, .int .i32 0, .int .i64 0, .string ⟨#[]⟩, .int .i64 0] (0, 0) _ rfl (end_put hr9.out 0 0 0 ⟨#[]⟩ 0) Try.underlying25 rfl (by kernel_rfl)) rfl ⟨rfl, below_set (below_set (below_set (below_set (below_set hB9.out (Nat.le_succ _)) (Nat.le_succ _)) (Nat.le_succ _)) (Nat.le_succ _)) (Nat.le_succ _)⟩
set_option maxHeartbeats 8000000 in
set_option maxRecDepth 100000 in
theorem rrun_neg (c d : ByteArray) (g e f : Int) (inp : ByteArray) (n : Int) (w : World) (hi : inp.size ≤ 9223372036854775807) (h : mayI c d g e f = true) (hl : inp.size ≤ 1048576) (hn : n < 0) :
    Calls Try.prog 10 #[imV c d g e f, .string inp, .int .i64 n] w (RunP zEnd 1 w) := by
  have hnew := fun W => Aside0.mk (rnew_good c d g e f inp W h hl)
  have hb : Aside0 (Below w.heap.size w ((w.alloc (.cells #[.string c, .string d, .int .i64 g, .int .i64 e, .int .i64 f] 23)).alloc (.cells #[.int .i64 0, .int .i32 0, .int .i64 0, .string ⟨#[]⟩, .int .i64 0] 25))) := ⟨below_alloc (below_alloc (Below.refl _ _) _) _⟩
  have hr : Aside0 (((w.alloc (.cells #[.string c, .string d, .int .i64 g, .int .i64 e, .int .i64 f] 23)).alloc (.cells #[.int .i64 0, .int .i32 0, .int .i64 0, .string ⟨#[]⟩, .int .i64 0] 25)).heap[w.heap.size + 1]? = some (.cells #[.int .i64 0, .int .i32 0, .int .i64 0, .string ⟨#[]⟩, .int .i64 0] 25 (0, 0))) := ⟨by have := blk_new (w.alloc (.cells #[.string c, .string d, .int .i64 g, .int .i64 e, .int .i64 f] 23)) (.cells #[.int .i64 0, .int .i32 0, .int .i64 0, .string ⟨#[]⟩, .int .i64 0] 25); simpa using this⟩
  clear h
  go_enter Try.func10, Try.ntmps10
  go_upto_region 2 with (go_at_call 21; (with_reducible refine (hnew _).out.mono ?_); rintro e' w1 hN; obtain ⟨g1, gm, hh, rfl, W0⟩ := hN.way; clear hN; have hb1 := Aside0.mk W0.bel; clear W0)
  generalize ((w.alloc (.cells #[.string c, .string d, .int .i64 g, .int .i64 e, .int .i64 f] 23)).alloc (.cells #[.int .i64 0, .int .i32 0, .int .i64 0, .string ⟨#[]⟩, .int .i64 0] 25)) = W at *
  have hr9 : Aside0 (w1.heap[w.heap.size + 1]? = some (.cells #[.int .i64 0, .int .i32 0, .int .i64 0, .string ⟨#[]⟩, .int .i64 0] 25 (0, 0))) := ⟨blk_below hr.out hb1.out⟩
  have hB9 : Aside0 (Below w.heap.size w w1) := ⟨below_step hb.out hb1.out⟩
  obtain ⟨z0, z1, z2, z3, z4, zf⟩ := zs_of hr9.out
  have f0 := zf 0
  have f1 := zf 1
  have f2 := zf 2
  have f3 := zf 3
  have f4 := zf 4
  clear zf hr hb
  go_wp2_with fail
  exact bodyPost_ret (results_ct rfl _ _ (w.heap.size + 1) 25 #[.int .i64 0, .int .i32 0, .int .i64 0, .string ⟨#[]⟩, .int .i64 0] (0, 0) _ rfl (end_put hr9.out 0 0 0 ⟨#[]⟩ 0) Try.underlying25 rfl (by kernel_rfl)) rfl ⟨rfl, below_set (below_set (below_set (below_set (below_set hB9.out (Nat.le_succ _)) (Nat.le_succ _)) (Nat.le_succ _)) (Nat.le_succ _)) (Nat.le_succ _)⟩
theorem rrunP (c d : ByteArray) (g e f : Int) (inp : ByteArray) (n : Int) (w : World) (hi : inp.size ≤ 9223372036854775807) (hn : n ≤ 549755813888) :
    Calls Try.prog 10 #[imV c d g e f, .string inp, .int .i64 n] w (RunP (runV c d g e f inp n).1 (runV c d g e f inp n).2 w) := by
  unfold runV
  by_cases h : mayI c d g e f = false
  · rw [if_pos h]; exact rrun_bad c d g e f inp n w hi h
  · rw [if_neg h]
    have h' : mayI c d g e f = true := by simpa using h
    by_cases hl : 1048576 < inp.size
    · rw [if_pos hl]; exact rrun_long c d g e f inp n w hi h' hl
    · rw [if_neg hl]
      by_cases h0 : n < 0
      · rw [if_pos h0]; exact rrun_neg c d g e f inp n w hi h' (by omega) h0
      · rw [if_neg h0]
        have := rrun_good c d g e f inp n.toNat w h' (by omega) (by omega)
        rw [show ((n.toNat : Nat) : Int) = n by omega] at this
        exact this
end Go.Proofs.Ytbhkfdjofopfkaa.MemA
