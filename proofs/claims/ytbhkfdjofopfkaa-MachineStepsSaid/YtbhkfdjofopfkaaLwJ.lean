/- The program's machine beside the reference's: the walk of the law, where both are made. -/
import Derived.Test.YtbhkfdjofopfkaaLwF
import Derived.Test.YtbhkfdjofopfkaaRaG
namespace Go.Proofs.Ytbhkfdjofopfkaa.MemA
open Go.RowKit Go.Proofs.YtbhkfdjofopfkaaW.PrintWords Go.Proofs.YtbhkfdjofopfkaaW.PrintLast
set_option linter.unusedVariables false
set_option linter.unusedSimpArgs false
theorem Duo.both15 {s : Mc} {g gm h g' gm' h' : Nat} {w wr : World} {k : Nat} (D : Duo s g gm h g' gm' h' w k k wr) (hol : s.out.length + k < 1099511627776) :
    Calls Try.prog 15 #[PM g] wr fun e w' => e = .returned (.bool (!(s.stepN k).ended)) ∧ Duo s g gm h g' gm' h' w (k + 1) k w' := by
  cases he : (s.stepN k).ended
  · exact D.stepM he hol
  · refine (D.stopM he).mono ?_
    rintro e w' ⟨rfl, rfl⟩
    have := stepN_ended he (k + 1) (by omega)
    obtain ⟨v, v', m, r, o1, o2⟩ := D.m
    exact ⟨rfl, ⟨v, v', by rw [this]; exact m, r, o1, o2⟩, D.bel, D.l, D.ap⟩
theorem Duo.both23 {s : Mc} {g gm h g' gm' h' : Nat} {w wr : World} {k : Nat} (D : Duo s g gm h g' gm' h' w (k + 1) k wr) (hol : s.out.length + k < 1099511627776) :
    Calls Try.prog 23 #[PM g'] wr fun e w' => e = .returned (.bool (!(s.stepN k).ended)) ∧ Duo s g gm h g' gm' h' w (k + 1) (k + 1) w' := by
  cases he : (s.stepN k).ended
  · exact D.stepR he hol
  · refine (D.stopR he).mono ?_
    rintro e w' ⟨rfl, rfl⟩
    have := stepN_ended he (k + 1) (by omega)
    obtain ⟨v, v', m, r, o1, o2⟩ := D.m
    exact ⟨rfl, ⟨v, v', m, by rw [this]; exact r, o1, o2⟩, D.bel, D.l, D.ap⟩
theorem Duo.mlen {s : Mc} {g gm h g' gm' h' : Nat} {w wr : World} {k j : Nat} (D : Duo s g gm h g' gm' h' w k j wr) : Aside0 ((s.stepN j).mem.length ≤ 9223372036854775807) := by
  obtain ⟨v, v', m, r, o1, o2⟩ := D.m
  have := r.ok.ml
  exact ⟨by omega⟩
set_option maxHeartbeats 8000000 in
set_option maxRecDepth 100000 in
theorem steps_good (c d : ByteArray) (g e f : Int) (inp : ByteArray) (n : Int) (n0 : 0 ≤ n) (n1 : n ≤ 65535) (w : World) (h : mayI c d g e f = true) (hl : inp.size ≤ 1048576) :
    Calls Try.prog 8 #[imV c d g e f, .string inp, .int .u16 n] w fun e w' => e = .returned (.bool true) ∧ Below w.heap.size w w' := by
  have hnew := fun W => Aside0.mk (new_good c d g e f inp W h hl)
  have hrnew := fun W => Aside0.mk (rnew_good c d g e f inp W h hl)
  have hck := fun W => Aside0.mk (checkP c d g e f W)
  have hrk := fun W => Aside0.mk (chk14 c d g e f W)
  rw [h] at hck hrk
  replace hck : ∀ W : World, Aside0 (Calls Try.prog 22 #[imV c d g e f] W fun e' w' => e' = .returned (.int .i64 0) ∧ Below W.heap.size W w') := hck
  replace hrk : ∀ W : World, Aside0 (Calls Try.prog 14 #[imV c d g e f] W fun e' w' => e' = .returned (.int .i64 0) ∧ Below W.heap.size W w') := hrk
  have hid := Aside0.mk (init_idle c d g e f inp)
  have hout : Aside0 ((Mc.init c d g e f inp).out.length = 0) := ⟨rfl⟩
  generalize Mc.init c d g e f inp = s at *
  have hb : Aside0 (Below w.heap.size w (w.alloc (.cells #[.string c, .string d, .int .i64 g, .int .i64 e, .int .i64 f] 23))) := ⟨below_alloc (Below.refl _ _) _⟩
  have hr : Aside0 ((w.alloc (.cells #[.string c, .string d, .int .i64 g, .int .i64 e, .int .i64 f] 23)).heap[w.heap.size]? = some (.cells #[.string c, .string d, .int .i64 g, .int .i64 e, .int .i64 f] 23 (0, 0))) := ⟨blk_new w _⟩
  clear h
  go_enter Try.func8, Try.ntmps8
  go_upto_region 1 with (fail)
  generalize w.alloc (.cells #[.string c, .string d, .int .i64 g, .int .i64 e, .int .i64 f] 23) = W at *
  have y0 := (blk_cell hr.out 0).trans (show _ = some (.string c) from rfl)
  have y1 := (blk_cell hr.out 1).trans (show _ = some (.string d) from rfl)
  have y2 := (blk_cell hr.out 2).trans (show _ = some (.int .i64 g) from rfl)
  have y3 := (blk_cell hr.out 3).trans (show _ = some (.int .i64 e) from rfl)
  have y4 := (blk_cell hr.out 4).trans (show _ = some (.int .i64 f) from rfl)
  have hbW := hb
  go_upto_region 2 with (go_at_call 13; (with_reducible refine (hnew _).out.mono ?_); rintro e' w1 hN; obtain ⟨g1, gm1, h1, rfl, m1, l1, l2, l3, hb1⟩ := hN; replace m1 := Aside0.mk m1; replace l1 := Aside0.mk l1; replace l2 := Aside0.mk l2; replace l3 := Aside0.mk l3; replace hb1 := Aside0.mk hb1)
  clear y0 y1 y2 y3 y4
  have hr1 : Aside0 (w1.heap[w.heap.size]? = some (.cells #[.string c, .string d, .int .i64 g, .int .i64 e, .int .i64 f] 23 (0, 0))) := ⟨blk_below hr.out hb1.out⟩
  have y0 := (blk_cell hr1.out 0).trans (show _ = some (.string c) from rfl)
  have y1 := (blk_cell hr1.out 1).trans (show _ = some (.string d) from rfl)
  have y2 := (blk_cell hr1.out 2).trans (show _ = some (.int .i64 g) from rfl)
  have y3 := (blk_cell hr1.out 3).trans (show _ = some (.int .i64 e) from rfl)
  have y4 := (blk_cell hr1.out 4).trans (show _ = some (.int .i64 f) from rfl)
  go_upto_region 3 with (go_at_call 21; (with_reducible refine (hrnew _).out.mono ?_); rintro e' w2 hN; obtain ⟨g2, gm2, h2, rfl, r2, l4, l5, l6, hb2⟩ := hN; have hD := Aside0.mk (Duo.begin m1.out l1.out l2.out l3.out hb1.out r2 l4 l5 l6 hb2); clear r2 l4 l5 l6 m1 l1 l2 l3; replace hb2 := Aside0.mk hb2)
  clear y0 y1 y2 y3 y4
  have hr2 : Aside0 (w2.heap[w.heap.size]? = some (.cells #[.string c, .string d, .int .i64 g, .int .i64 e, .int .i64 f] 23 (0, 0))) := ⟨blk_below hr1.out hb2.out⟩
  have hB2 : Aside0 (Below w.heap.size w w2) := ⟨below_step (below_step hb.out hb1.out) hb2.out⟩
  have hy : ∀ W' : World, W'.heap[w.heap.size]? = some (.cells #[.string c, .string d, .int .i64 g, .int .i64 e, .int .i64 f] 23 (0, 0)) → W'.cell? ⟨w.heap.size, 0, none⟩ = some (.string c) ∧ W'.cell? ⟨w.heap.size, 1, none⟩ = some (.string d) ∧ W'.cell? ⟨w.heap.size, 2, none⟩ = some (.int .i64 g) ∧ W'.cell? ⟨w.heap.size, 3, none⟩ = some (.int .i64 e) ∧ W'.cell? ⟨w.heap.size, 4, none⟩ = some (.int .i64 f) := fun W' h => ⟨(blk_cell h 0).trans rfl, (blk_cell h 1).trans rfl, (blk_cell h 2).trans rfl, (blk_cell h 3).trans rfl, (blk_cell h 4).trans rfl⟩
  obtain ⟨y0, y1, y2, y3, y4⟩ := hy _ hr2.out
  have hh : Below w2.heap.size w2 w2 := Below.refl _ _
  go_region_held3 (fun w' => Below w2.heap.size w2 w' ∧ w'.cell? ⟨w.heap.size, 0, none⟩ = some (.string c) ∧ w'.cell? ⟨w.heap.size, 1, none⟩ = some (.string d) ∧ w'.cell? ⟨w.heap.size, 2, none⟩ = some (.int .i64 g) ∧ w'.cell? ⟨w.heap.size, 3, none⟩ = some (.int .i64 e) ∧ w'.cell? ⟨w.heap.size, 4, none⟩ = some (.int .i64 f))
    (first | exact ⟨below_drew hh, y0, y1, y2, y3, y4⟩ | (go_split_ands; refine ⟨below_step ‹_› ‹_›, ?_, ?_, ?_, ?_, ?_⟩ <;> (rw [Below.cell ‹_› (Nat.lt_of_lt_of_le (blk_lt hr2.out) (Below.size ‹_›))]; assumption)))
    (first | (go_at_call 22; (with_reducible refine (hck _).out.mono ?_); rintro e' w' ⟨rfl, hb⟩) | (go_at_call 14; (with_reducible refine (hrk _).out.mono ?_); rintro e' w' ⟨rfl, hb⟩))
  go_split_ands
  rename_i bz z0 z1 z2 z3 z4
  have hB3 := Aside0.mk (below_step hB2.out bz)
  have hD3 := Aside0.mk (hD.out.below bz)
  clear z0 z1 z2 z3 z4 y0 y1 y2 y3 y4 bz hh hD
  have hB3 := hB3
  go_wp2_with fail
  go_loopw [11] (fun i wo => ∃ k : Nat, i = .int .i64 k ∧ k ≤ 3000 ∧ Aside0 (Duo s g1 gm1 h1 g2 gm2 h2 W k k wo)) (fun i _ => 3000 - (intOf i).toNat)
  case atStart => exact ⟨0, rfl, Nat.zero_le _, hD3⟩
  case round =>
    obtain ⟨k, rfl, hk, hW⟩ := hrel
    clear hD3
    by_cases hlt : (k : Int) < n
    · by_cases hl3 : (k : Int) < 3000
      · have hDn : ∀ q, Aside0 (Duo s g1 gm1 h1 g2 gm2 h2 W k k (wr.drewN q)) := fun q => ⟨hW.out.below (bdn0 _ _)⟩
        have c23 := hW.out.ref.pc
        have c24 := hW.out.ref.ended
        have he := fun q => Aside0.mk (hDn q).out.ended_
        have hp := fun q => Aside0.mk (hDn q).out.pc_
        have hol : Aside0 (s.out.length + k < 1099511627776) := ⟨by have := hout.out; omega⟩
        go_upto_region 10 with (fail)
        go_quiet (first | (go_at_call 17; refine Calls.quiet_of_same ((he _).out.mono fun _ _ h => ⟨h.1, h.2.symm⟩)) | (go_at_call 19; refine Calls.quiet_of_same ((hp _).out.mono fun _ _ h => ⟨h.1, h.2.symm⟩)))
        have hD1 := hDn nq
        clear hDn c23 c24 he hp hW
        generalize wr.drewN nq = wo1 at *
        go_wp2_with fail
        go_loopw [12] (fun i wq => ∃ m : Nat, i = .int .i64 m ∧ m ≤ 16 ∧ Aside0 (Duo s g1 gm1 h1 g2 gm2 h2 W k k wq)) (fun i _ => 16 - (intOf i).toNat)
        case atStart => exact ⟨0, rfl, Nat.zero_le _, hD1⟩
        case round =>
          obtain ⟨m, rfl, hm, hQ⟩ := hrel
          clear hD1
          by_cases hm1 : m < 16
          · have cr := hQ.out.ref.reg m hm1
            have hr : ∀ q, Aside0 (Calls Try.prog 16 #[PM g1, .int .i64 (m : Int)] (wr.drewN q) fun e w' => e = .returned (.int .u32 ((s.stepN k).regs.getD m 0)) ∧ wr.drewN q = w') := fun q => ⟨(hQ.out.below (bdn0 _ q)).reg m hm1⟩
            generalize (s.stepN k).regs.getD m 0 = x at *
            have q0 : (0 : Int) ≤ (m : Int) := by omega
            have q1 : (m : Int) < 16 := by omega
            go_upto_region 15 with (fail)
            go_quiet ((go_at_call 16; refine Calls.quiet_of_same ((hr _).out.mono fun _ _ h => ⟨h.1, h.2.symm⟩)))
            go_wp2_with fail
            go_roundw
            case rel => exact ⟨m + 1, by go_num, by omega, ⟨hQ.out.below (bdn0 _ _)⟩⟩
            case measure => simp [intOf]; omega
          · obtain rfl : m = 16 := by omega
            clear hm1 hm
            have h15 := Aside0.mk (hQ.out.both15 hol.out)
            have hol23 := fun W' (D : Duo s g1 gm1 h1 g2 gm2 h2 W (k + 1) k W') => Aside0.mk (D.both23 hol.out)
            generalize (!(s.stepN k).ended) = b at *
            cases b
            all_goals
              go_upto_region 19 with (first | (go_at_call 15; (with_reducible refine h15.out.mono ?_); rintro e wA ⟨rfl, hA⟩; have h23 := hol23 _ hA; replace hA := Aside0.mk hA) | (go_at_call 23; (with_reducible refine h23.out.mono ?_); rintro e wB ⟨rfl, hB⟩; replace hB := Aside0.mk hB))
              clear h15 hol23 h23 hA
              have c24 := hB.out.ref.ended
              generalize hE : (s.stepN (k + 1)).ended = b1 at c24
              replace hE := Aside0.mk hE
              by_cases hk3 : (3 : Int) < (k : Int)
              · cases b1
                · go_wp2_with fail
                  go_roundw
                  case rel => exact ⟨k + 1, by go_num, by omega, hB⟩
                  case measure => simp [intOf]; omega
                · clear c24
                  have hTn : ∀ q, Aside0 (Duo s g1 gm1 h1 g2 gm2 h2 W (k + 1) (k + 1) (wB.drewN q)) := fun q => ⟨hB.out.below (bdn0 _ _)⟩
                  have tm := fun q => Aside0.mk (hTn q).out.memory_
                  have t1 := fun q r (h : r = -1 ∨ r = 16) => Aside0.mk ((hTn q).out.regN r h)
                  have te := fun q => Aside0.mk (hTn q).out.ended_
                  have tp := fun q => Aside0.mk (hTn q).out.pc_
                  have tb := fun q => Aside0.mk (hTn q).out.bytes
                  have hml := hB.out.mlen
                  have hcv := fun q => Kd.C_string (P := Try.prog) (src := 46) (dst := 9) (e := 5) (c := (s.stepN (k + 1)).mem.length) Try.underlying46 Try.underlying5 Try.underlying9 ((hTn q).out.ref.row.C hml.out)
                  have hV : ∃ (a1 a2 a3 : Int) (a4 : ByteArray) (a5 : Int), (s.stepN (k + 1)).endV = .agg #[.int .i64 a1, .int .i32 a2, .int .i64 a3, .string a4, .int .i64 a5] := ⟨_, _, _, _, _, rfl⟩
                  obtain ⟨a1, a2, a3, a4, a5, hV⟩ := hV
                  have tE : ∀ W', Duo s g1 gm1 h1 g2 gm2 h2 W (k + 1) (k + 1) W' → Aside0 (Calls Try.prog 18 #[PM g1] W' fun e w' => e = .returned (.agg #[.int .i64 a1, .int .i32 a2, .int .i64 a3, .string a4, .int .i64 a5]) ∧ Below W'.heap.size W' w') := fun W' D => ⟨by have := D.endM; rw [hV] at this; exact this⟩
                  have tF : ∀ W', Duo s g1 gm1 h1 g2 gm2 h2 W (k + 1) (k + 1) W' → Aside0 (Calls Try.prog 25 #[PM g2] W' fun e w' => e = .returned (.agg #[.int .i64 a1, .int .i32 a2, .int .i64 a3, .string a4, .int .i64 a5]) ∧ Below W'.heap.size W' w') := fun W' D => ⟨by have := D.endR hid.out; rw [hV] at this; exact this⟩
                  clear hV
                  have u23_ := hB.out.ref.pc
                  have u24_ := hB.out.ref.ended
                  have u6_ := hB.out.ref.mem
                  have ub_ := hB.out.ref.row.c0
                  have hcv' : ∀ q, Aside0 ((convert 46 9 (.slice (some ⟨h2, 0, none⟩) (s.stepN (k + 1)).mem.length (s.stepN (k + 1)).mem.length)).run Try.prog (wB.drewN q) = .ok (.string (strOfNums (s.stepN (k + 1)).mem)) (wB.drewN q)) := fun q => ⟨hcv q⟩
                  clear hcv hml
                  generalize strOfNums (s.stepN (k + 1)).mem = bs at *
                  generalize (s.stepN (k + 1)).mem.length = bl at *
                  generalize (s.stepN (k + 1)).pc = p0 at *
                  generalize (s.stepN (k + 1)).ended = b0 at *
                  obtain rfl : b0 = true := hE.out
                  all_goals
                    go_upto_region 20 with (fail)
                    go_quiet (first | (go_at_call 20; refine Calls.quiet_of_same ((tm _).out.mono fun _ _ h => ⟨h.1, h.2.symm⟩)) | (go_at_call 16; refine Calls.quiet_of_same ((t1 _ _ (by decide)).out.mono fun _ _ h => ⟨h.1, h.2.symm⟩)) | (go_at_call 17; refine Calls.quiet_of_same ((te _).out.mono fun _ _ h => ⟨h.1, h.2.symm⟩)) | (go_at_call 19; refine Calls.quiet_of_same ((tp _).out.mono fun _ _ h => ⟨h.1, h.2.symm⟩)))
                    have hcq := (hcv' nq).out
                    go_wp2_with first | (go_at_call 20; (with_reducible refine (tm _).out.mono ?_); rintro e wA ⟨rfl, rfl⟩) | (go_at_call 24; (with_reducible refine (tb _).out.mono ?_); rintro e wA ⟨rfl, rfl⟩) | (go_at_call 18; (with_reducible refine (tE _ (hTn nq).out).out.mono ?_); rintro e wA ⟨rfl, hbA⟩; have hTA := Aside0.mk ((hTn nq).out.below hbA); have fE := (tF _ hTA.out); replace hbA := Aside0.mk hbA) | (go_at_call 25; (with_reducible refine fE.out.mono ?_); rintro e wB ⟨rfl, hbB⟩; have hTB := Aside0.mk (hTA.out.below hbB); replace hbB := Aside0.mk hbB) | (go_at_call 11; (with_reducible refine (awake _).mono ?_); rintro e w5 ⟨rfl, hb5⟩; replace hb5 := Aside0.mk hb5)
                    go_ret
                    exact ⟨rfl, below_step (below_step hbW.out hTB.out.bel) hb5.out⟩
              · cases b1
                all_goals
                  go_wp2_with fail
                  go_roundw
                  case rel => exact ⟨k + 1, by go_num, by omega, hB⟩
                  case measure => simp [intOf]; omega
      · obtain rfl : k = 3000 := by omega
        have hTn : ∀ q, Aside0 (Duo s g1 gm1 h1 g2 gm2 h2 W (3000) (3000) (wr.drewN q)) := fun q => ⟨hW.out.below (bdn0 _ _)⟩
        have tm := fun q => Aside0.mk (hTn q).out.memory_
        have t1 := fun q r (h : r = -1 ∨ r = 16) => Aside0.mk ((hTn q).out.regN r h)
        have te := fun q => Aside0.mk (hTn q).out.ended_
        have tp := fun q => Aside0.mk (hTn q).out.pc_
        have tb := fun q => Aside0.mk (hTn q).out.bytes
        have hml := hW.out.mlen
        have hcv := fun q => Kd.C_string (P := Try.prog) (src := 46) (dst := 9) (e := 5) (c := (s.stepN (3000)).mem.length) Try.underlying46 Try.underlying5 Try.underlying9 ((hTn q).out.ref.row.C hml.out)
        have hV : ∃ (a1 a2 a3 : Int) (a4 : ByteArray) (a5 : Int), (s.stepN (3000)).endV = .agg #[.int .i64 a1, .int .i32 a2, .int .i64 a3, .string a4, .int .i64 a5] := ⟨_, _, _, _, _, rfl⟩
        obtain ⟨a1, a2, a3, a4, a5, hV⟩ := hV
        have tE : ∀ W', Duo s g1 gm1 h1 g2 gm2 h2 W (3000) (3000) W' → Aside0 (Calls Try.prog 18 #[PM g1] W' fun e w' => e = .returned (.agg #[.int .i64 a1, .int .i32 a2, .int .i64 a3, .string a4, .int .i64 a5]) ∧ Below W'.heap.size W' w') := fun W' D => ⟨by have := D.endM; rw [hV] at this; exact this⟩
        have tF : ∀ W', Duo s g1 gm1 h1 g2 gm2 h2 W (3000) (3000) W' → Aside0 (Calls Try.prog 25 #[PM g2] W' fun e w' => e = .returned (.agg #[.int .i64 a1, .int .i32 a2, .int .i64 a3, .string a4, .int .i64 a5]) ∧ Below W'.heap.size W' w') := fun W' D => ⟨by have := D.endR hid.out; rw [hV] at this; exact this⟩
        clear hV
        have u23_ := hW.out.ref.pc
        have u24_ := hW.out.ref.ended
        have u6_ := hW.out.ref.mem
        have ub_ := hW.out.ref.row.c0
        have hcv' : ∀ q, Aside0 ((convert 46 9 (.slice (some ⟨h2, 0, none⟩) (s.stepN (3000)).mem.length (s.stepN (3000)).mem.length)).run Try.prog (wr.drewN q) = .ok (.string (strOfNums (s.stepN (3000)).mem)) (wr.drewN q)) := fun q => ⟨hcv q⟩
        clear hcv hml
        generalize strOfNums (s.stepN (3000)).mem = bs at *
        generalize (s.stepN (3000)).mem.length = bl at *
        generalize (s.stepN (3000)).pc = p0 at *
        generalize (s.stepN (3000)).ended = b0 at *
        cases b0
        all_goals
          go_upto_region 20 with (fail)
          go_quiet (first | (go_at_call 20; refine Calls.quiet_of_same ((tm _).out.mono fun _ _ h => ⟨h.1, h.2.symm⟩)) | (go_at_call 16; refine Calls.quiet_of_same ((t1 _ _ (by decide)).out.mono fun _ _ h => ⟨h.1, h.2.symm⟩)) | (go_at_call 17; refine Calls.quiet_of_same ((te _).out.mono fun _ _ h => ⟨h.1, h.2.symm⟩)) | (go_at_call 19; refine Calls.quiet_of_same ((tp _).out.mono fun _ _ h => ⟨h.1, h.2.symm⟩)))
          have hcq := (hcv' nq).out
          go_wp2_with first | (go_at_call 20; (with_reducible refine (tm _).out.mono ?_); rintro e wA ⟨rfl, rfl⟩) | (go_at_call 24; (with_reducible refine (tb _).out.mono ?_); rintro e wA ⟨rfl, rfl⟩) | (go_at_call 18; (with_reducible refine (tE _ (hTn nq).out).out.mono ?_); rintro e wA ⟨rfl, hbA⟩; have hTA := Aside0.mk ((hTn nq).out.below hbA); have fE := (tF _ hTA.out); replace hbA := Aside0.mk hbA) | (go_at_call 25; (with_reducible refine fE.out.mono ?_); rintro e wB ⟨rfl, hbB⟩; have hTB := Aside0.mk (hTA.out.below hbB); replace hbB := Aside0.mk hbB) | (go_at_call 11; (with_reducible refine (awake _).mono ?_); rintro e w5 ⟨rfl, hb5⟩; replace hb5 := Aside0.mk hb5)
          go_ret
          exact ⟨rfl, below_step (below_step hbW.out hTB.out.bel) hb5.out⟩
    · clear hk
      have hTn : ∀ q, Aside0 (Duo s g1 gm1 h1 g2 gm2 h2 W (k) (k) (wr.drewN q)) := fun q => ⟨hW.out.below (bdn0 _ _)⟩
      have tm := fun q => Aside0.mk (hTn q).out.memory_
      have t1 := fun q r (h : r = -1 ∨ r = 16) => Aside0.mk ((hTn q).out.regN r h)
      have te := fun q => Aside0.mk (hTn q).out.ended_
      have tp := fun q => Aside0.mk (hTn q).out.pc_
      have tb := fun q => Aside0.mk (hTn q).out.bytes
      have hml := hW.out.mlen
      have hcv := fun q => Kd.C_string (P := Try.prog) (src := 46) (dst := 9) (e := 5) (c := (s.stepN (k)).mem.length) Try.underlying46 Try.underlying5 Try.underlying9 ((hTn q).out.ref.row.C hml.out)
      have hV : ∃ (a1 a2 a3 : Int) (a4 : ByteArray) (a5 : Int), (s.stepN (k)).endV = .agg #[.int .i64 a1, .int .i32 a2, .int .i64 a3, .string a4, .int .i64 a5] := ⟨_, _, _, _, _, rfl⟩
      obtain ⟨a1, a2, a3, a4, a5, hV⟩ := hV
      have tE : ∀ W', Duo s g1 gm1 h1 g2 gm2 h2 W (k) (k) W' → Aside0 (Calls Try.prog 18 #[PM g1] W' fun e w' => e = .returned (.agg #[.int .i64 a1, .int .i32 a2, .int .i64 a3, .string a4, .int .i64 a5]) ∧ Below W'.heap.size W' w') := fun W' D => ⟨by have := D.endM; rw [hV] at this; exact this⟩
      have tF : ∀ W', Duo s g1 gm1 h1 g2 gm2 h2 W (k) (k) W' → Aside0 (Calls Try.prog 25 #[PM g2] W' fun e w' => e = .returned (.agg #[.int .i64 a1, .int .i32 a2, .int .i64 a3, .string a4, .int .i64 a5]) ∧ Below W'.heap.size W' w') := fun W' D => ⟨by have := D.endR hid.out; rw [hV] at this; exact this⟩
      clear hV
      have u23_ := hW.out.ref.pc
      have u24_ := hW.out.ref.ended
      have u6_ := hW.out.ref.mem
      have ub_ := hW.out.ref.row.c0
      have hcv' : ∀ q, Aside0 ((convert 46 9 (.slice (some ⟨h2, 0, none⟩) (s.stepN (k)).mem.length (s.stepN (k)).mem.length)).run Try.prog (wr.drewN q) = .ok (.string (strOfNums (s.stepN (k)).mem)) (wr.drewN q)) := fun q => ⟨hcv q⟩
      clear hcv hml
      generalize strOfNums (s.stepN (k)).mem = bs at *
      generalize (s.stepN (k)).mem.length = bl at *
      generalize (s.stepN (k)).pc = p0 at *
      generalize (s.stepN (k)).ended = b0 at *
      cases b0
      all_goals
        go_upto_region 20 with (fail)
        go_quiet (first | (go_at_call 20; refine Calls.quiet_of_same ((tm _).out.mono fun _ _ h => ⟨h.1, h.2.symm⟩)) | (go_at_call 16; refine Calls.quiet_of_same ((t1 _ _ (by decide)).out.mono fun _ _ h => ⟨h.1, h.2.symm⟩)) | (go_at_call 17; refine Calls.quiet_of_same ((te _).out.mono fun _ _ h => ⟨h.1, h.2.symm⟩)) | (go_at_call 19; refine Calls.quiet_of_same ((tp _).out.mono fun _ _ h => ⟨h.1, h.2.symm⟩)))
        have hcq := (hcv' nq).out
        go_wp2_with first | (go_at_call 20; (with_reducible refine (tm _).out.mono ?_); rintro e wA ⟨rfl, rfl⟩) | (go_at_call 24; (with_reducible refine (tb _).out.mono ?_); rintro e wA ⟨rfl, rfl⟩) | (go_at_call 18; (with_reducible refine (tE _ (hTn nq).out).out.mono ?_); rintro e wA ⟨rfl, hbA⟩; have hTA := Aside0.mk ((hTn nq).out.below hbA); have fE := (tF _ hTA.out); replace hbA := Aside0.mk hbA) | (go_at_call 25; (with_reducible refine fE.out.mono ?_); rintro e wB ⟨rfl, hbB⟩; have hTB := Aside0.mk (hTA.out.below hbB); replace hbB := Aside0.mk hbB) | (go_at_call 11; (with_reducible refine (awake _).mono ?_); rintro e w5 ⟨rfl, hb5⟩; replace hb5 := Aside0.mk hb5)
        go_ret
        exact ⟨rfl, below_step (below_step hbW.out hTB.out.bel) hb5.out⟩
end Go.Proofs.Ytbhkfdjofopfkaa.MemA
