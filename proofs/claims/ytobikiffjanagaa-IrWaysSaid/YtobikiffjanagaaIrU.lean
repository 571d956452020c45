/- The law of the ways between blocks. -/
import Derived.Test.YtobikiffjanagaaIrT
import Derived.Test.YtobikiffjanagaaIrO
import Derived.Test.YtobikiffjanagaaIrR
import Derived.Test.YtobikiffjanagaaIrH
import Derived.Deep.DeepCutAuto
namespace Go.Proofs.Ytobikiffjanagaa.IrA
open Go.RowKit Go.Proofs.YtobikiffjanagaaW.PrintWords Go.Proofs.YtobikiffjanagaaW.PrintLast Go.Proofs.YtobikiffjanagaaW.PrintMore Go.Proofs.Ytobikiffjanagaa.GF
set_option linter.unusedVariables false
set_option linter.unusedSimpArgs false

theorem fin_length {n : Nat} {bs : List S58} : ∀ (k : Nat) {st : Rst}, Gd n st → (fin bs k st).length = n
  | 0, _, h => h.len
  | k + 1, st, h => by
    unfold fin
    split
    · exact h.len
    · exact fin_length k h.turn
theorem reached_length (bs : List S58) : (reached bs).length = bs.length := by
  unfold reached
  split
  · rename_i h; simp [h]
  · exact fin_length _ (gd_start (by omega))
/-- Below, the parameter's block, and what is read there. -/
structure Hd (w : World) (v0 v1 v2 v3 v4 : Value) (W : World) : Prop where
  b : Below w.heap.size w W
  x : W.heap[w.heap.size]? = some (.cells #[v0, v1, v2, v3, v4] 33 (0, 0))
theorem Hd.drewN {w : World} {v0 v1 v2 v3 v4 : Value} {W : World} (h : Hd w v0 v1 v2 v3 v4 W) (n : Nat) : Hd w v0 v1 v2 v3 v4 (W.drewN n) := ⟨pw_below_drewN h.b n, h.x⟩
theorem Hd.drew {w : World} {v0 v1 v2 v3 v4 : Value} {W : World} (h : Hd w v0 v1 v2 v3 v4 W) : Hd w v0 v1 v2 v3 v4 W.drew := ⟨below_drew h.b, h.x⟩
theorem Hd.next {w : World} {v0 v1 v2 v3 v4 : Value} {W W' : World} (h : Hd w v0 v1 v2 v3 v4 W) (hb : Below W.heap.size W W') : Hd w v0 v1 v2 v3 v4 W' := ⟨below_step h.b hb, (hb.block _ (blk_lt h.x)).trans h.x⟩
/-- What a call leaves that made a row. -/
def RetX {α : Type} (d : Kd α) (w : World) (v0 v1 v2 v3 v4 : Value) (n : Nat) (l : List α) (W : World) (e : Ending) (W' : World) : Prop :=
  ∃ A c, e = .returned (.slice A n c) ∧ Aside0 (d.C W' A n l) ∧ Aside0 (Hd w v0 v1 v2 v3 v4 W') ∧ Aside0 (Below W.heap.size W W') ∧
    W'.cell? ⟨w.heap.size, 0, none⟩ = some v0 ∧ W'.cell? ⟨w.heap.size, 1, none⟩ = some v1 ∧ W'.cell? ⟨w.heap.size, 2, none⟩ = some v2 ∧ W'.cell? ⟨w.heap.size, 3, none⟩ = some v3 ∧ W'.cell? ⟨w.heap.size, 4, none⟩ = some v4
theorem retX {α : Type} {d : Kd α} {w W W' : World} {v0 v1 v2 v3 v4 : Value} {n c : Nat} {l : List α} {A : Option Addr} (hC : d.C W' A n l) (h : Hd w v0 v1 v2 v3 v4 W) (hb : Below W.heap.size W W') : RetX d w v0 v1 v2 v3 v4 n l W (.returned (.slice A n c)) W' :=
  ⟨A, c, rfl, ⟨hC⟩, ⟨h.next hb⟩, ⟨hb⟩, (blk_cell (h.next hb).x 0).trans rfl, (blk_cell (h.next hb).x 1).trans rfl, (blk_cell (h.next hb).x 2).trans rfl, (blk_cell (h.next hb).x 3).trans rfl, (blk_cell (h.next hb).x 4).trans rfl⟩
theorem retL {w W W' : World} {e : Ending} {v0 v1 v2 v3 v4 : Value} {n : Nat} {L : List (List Int)} (hn : L.length = n) (h : Hd w v0 v1 v2 v3 v4 W) (hr : RetL L W e W') : RetX KL w v0 v1 v2 v3 v4 n L W e W' := by
  subst hn
  obtain ⟨v, rfl, hS, hb⟩ := hr
  obtain ⟨A, c, rfl, _, hC⟩ := Kd.S_reads hS
  exact retX hC h hb
theorem retM {w W W' : World} {e : Ending} {v0 v1 v2 v3 v4 : Value} {n : Nat} {l : List Bool} (hn : l.length = n) (h : Hd w v0 v1 v2 v3 v4 W) (hr : RetM l W e W') : RetX Kd.bool w v0 v1 v2 v3 v4 n l W e W' := by
  subst hn
  obtain ⟨v, rfl, hR, hb⟩ := hr
  obtain ⟨A, c, rfl, _, hC⟩ := Kd.R_reads hR
  exact retX hC h hb

theorem cb {α : Type} {d : Kd α} {w w' : World} {A : Option Addr} {n : Nat} {l : List α} (hb : Aside0 (Below w.heap.size w w')) (h : Aside0 (d.C w A n l)) : Aside0 (d.C w' A n l) := ⟨Kd.C_below h.out hb.out⟩

set_option maxHeartbeats 16000000 in
set_option maxRecDepth 100000 in
theorem ways_law {w : World} {nm : ByteArray} {pa re sl : Int} {A : Option Addr} {c : Nat} {bs : List S58} (hl : Aside0 (Kd.C k58 w A bs.length bs)) (hn : bs.length ≤ 2199023255552) :
    Calls Try.prog 5 #[fv nm pa re sl A bs.length c] w (RetB (.bool true) w) := by
  have h14 : Aside0 (∀ W, Hd w (.string nm) (.int .i64 pa) (.int .i64 re) (.int .i64 sl) (.slice A bs.length c) W → Calls Try.prog 14 #[fv nm pa re sl A bs.length c] W (RetX KL w (.string nm) (.int .i64 pa) (.int .i64 re) (.int .i64 sl) (.slice A bs.length c) bs.length (predsP bs) W)) :=
    ⟨fun W h => (preds nm pa re sl A c bs ⟨Kd.C_below hl.out h.b⟩ hn).mono fun _ _ hr => retL (predsTo_length bs _) h hr⟩
  have h15 : Aside0 (∀ W, Hd w (.string nm) (.int .i64 pa) (.int .i64 re) (.int .i64 sl) (.slice A bs.length c) W → Calls Try.prog 15 #[fv nm pa re sl A bs.length c] W (RetX KL w (.string nm) (.int .i64 pa) (.int .i64 re) (.int .i64 sl) (.slice A bs.length c) bs.length (predsP bs) W)) :=
    ⟨fun W h => (rpreds nm pa re sl A c bs ⟨Kd.C_below hl.out h.b⟩ hn).mono fun _ _ hr => retL (predsTo_length bs _) h hr⟩
  have h16 : Aside0 (∀ W, Hd w (.string nm) (.int .i64 pa) (.int .i64 re) (.int .i64 sl) (.slice A bs.length c) W → Calls Try.prog 16 #[fv nm pa re sl A bs.length c] W (RetX Kd.bool w (.string nm) (.int .i64 pa) (.int .i64 re) (.int .i64 sl) (.slice A bs.length c) bs.length (reached bs) W)) :=
    ⟨fun W h => (reached_walk nm pa re sl A c bs ⟨Kd.C_below hl.out h.b⟩ hn).mono fun _ _ hr => retM (reached_length bs) h hr⟩
  have h17 : Aside0 (∀ W, Hd w (.string nm) (.int .i64 pa) (.int .i64 re) (.int .i64 sl) (.slice A bs.length c) W → Calls Try.prog 17 #[fv nm pa re sl A bs.length c] W (RetX Kd.bool w (.string nm) (.int .i64 pa) (.int .i64 re) (.int .i64 sl) (.slice A bs.length c) bs.length (reached bs) W)) :=
    ⟨fun W h => (rreached_walk nm pa re sl A c bs ⟨Kd.C_below hl.out h.b⟩ hn).mono fun _ _ hr => retM (reached_length bs) h hr⟩
  have hH : Aside0 (Hd w (.string nm) (.int .i64 pa) (.int .i64 re) (.int .i64 sl) (.slice A bs.length c) (w.alloc (fb nm pa re sl A bs.length c))) := ⟨⟨below_alloc (Below.refl _ _) _, blk_new w _⟩⟩
  have hPl := Aside0.mk (predsTo_length bs bs.length)
  have hRl := Aside0.mk (reached_length bs)
  generalize hP : predsP bs = P at *
  generalize hR : reached bs = R at *
  have hPl : Aside0 (P.length = bs.length) := ⟨hP ▸ hPl.out⟩
  clear hP hR hl
  generalize bs.length = n at *
  go_enter Try.func5, Try.ntmps5
  go_upto_region 1 with (fail)
  generalize w.alloc (fb nm pa re sl A n c) = W0 at *
  have z0 : W0.cell? ⟨w.heap.size, 0, none⟩ = some (.string nm) := (blk_cell hH.out.x 0).trans rfl
  have z1 : W0.cell? ⟨w.heap.size, 1, none⟩ = some (.int .i64 pa) := (blk_cell hH.out.x 1).trans rfl
  have z2 : W0.cell? ⟨w.heap.size, 2, none⟩ = some (.int .i64 re) := (blk_cell hH.out.x 2).trans rfl
  have z3 : W0.cell? ⟨w.heap.size, 3, none⟩ = some (.int .i64 sl) := (blk_cell hH.out.x 3).trans rfl
  have z4 : W0.cell? ⟨w.heap.size, 4, none⟩ = some (.slice A n c) := (blk_cell hH.out.x 4).trans rfl
  go_cut [3, 4] (fun s3 s4 wx => ∃ A3 c3 A4 c4, s3 = .slice A3 n c3 ∧ s4 = .slice A4 n c4 ∧ Aside0 (KL.C wx A3 n P) ∧ Aside0 (KL.C wx A4 n P) ∧ Aside0 (Hd w (.string nm) (.int .i64 pa) (.int .i64 re) (.int .i64 sl) (.slice A n c) wx))
  case first =>
    go_region_with (first
      | (go_at_call 14; refine (h14.out _ (by first | exact Hd.drew (Aside0.out ‹_›) | exact Hd.drewN (Aside0.out ‹_›) _ | exact Aside0.out ‹_›)).mono ?_; rintro e w' ⟨Ax, cx, rfl, hCx, hHx, hbx, y0, y1, y2, y3, y4⟩)
      | (go_at_call 15; refine (h15.out _ (by first | exact Hd.drew (Aside0.out ‹_›) | exact Hd.drewN (Aside0.out ‹_›) _ | exact Aside0.out ‹_›)).mono ?_; rintro e w' ⟨Ax, cx, rfl, hCx, hHx, hbx, y0, y1, y2, y3, y4⟩))
    all_goals
      go_wp2_with fail
      go_meet
      exact ⟨_, _, _, _, rfl, rfl, by first | assumption | exact cb (by assumption) (by assumption), by first | assumption | exact cb (by assumption) (by assumption), by assumption⟩
  case rest =>
    obtain ⟨A3, c3, A4, c4, rfl, rfl, hC3, hC4, hHc⟩ := hcut
    clear hH z0 z1 z2 z3 z4
    rename_i W0
    generalize wc = W1 at *
    go_upto_region 2 with (fail)
    have z0 : W1.cell? ⟨w.heap.size, 0, none⟩ = some (.string nm) := (blk_cell hHc.out.x 0).trans rfl
    have z1 : W1.cell? ⟨w.heap.size, 1, none⟩ = some (.int .i64 pa) := (blk_cell hHc.out.x 1).trans rfl
    have z2 : W1.cell? ⟨w.heap.size, 2, none⟩ = some (.int .i64 re) := (blk_cell hHc.out.x 2).trans rfl
    have z3 : W1.cell? ⟨w.heap.size, 3, none⟩ = some (.int .i64 sl) := (blk_cell hHc.out.x 3).trans rfl
    have z4 : W1.cell? ⟨w.heap.size, 4, none⟩ = some (.slice A n c) := (blk_cell hHc.out.x 4).trans rfl
    go_cut [5, 6] (fun s5 s6 wx => ∃ A5 c5 A6 c6, s5 = .slice A5 n c5 ∧ s6 = .slice A6 n c6 ∧ Aside0 (Kd.bool.C wx A5 n R) ∧ Aside0 (Kd.bool.C wx A6 n R) ∧ Aside0 (KL.C wx A3 n P) ∧ Aside0 (KL.C wx A4 n P) ∧ Aside0 (Below w.heap.size w wx))
    case first =>
      go_region_with (first
        | (go_at_call 16; refine (h16.out _ (by first | exact Hd.drew (Aside0.out ‹_›) | exact Hd.drewN (Aside0.out ‹_›) _ | exact Aside0.out ‹_›)).mono ?_; rintro e w' ⟨Ax, cx, rfl, hCx, hHx, hbx, y0, y1, y2, y3, y4⟩)
        | (go_at_call 17; refine (h17.out _ (by first | exact Hd.drew (Aside0.out ‹_›) | exact Hd.drewN (Aside0.out ‹_›) _ | exact Aside0.out ‹_›)).mono ?_; rintro e w' ⟨Ax, cx, rfl, hCx, hHx, hbx, y0, y1, y2, y3, y4⟩))
      all_goals
        go_wp2_with fail
        go_meet
        exact ⟨_, _, _, _, rfl, rfl, by first | assumption | exact cb (by assumption) (by assumption), by first | assumption | exact cb (by assumption) (by assumption), cb (by assumption) (cb (by assumption) (by assumption)), cb (by assumption) (cb (by assumption) (by assumption)), ⟨(Aside0.out ‹Aside0 (Hd w _ _ _ _ _ _)›).b⟩⟩
    case rest =>
      obtain ⟨A5, c5, A6, c6, rfl, rfl, hC5, hC6, hC3, hC4, hB⟩ := hcut
      clear hHc z0 z1 z2 z3 z4 h14 h15 h16 h17
      generalize wc = W2 at *
      have q1 : ((n : Int) != (n : Int)) = false := by simp
      go_wp2
      go_loopw [7] (fun i wr => ∃ j : Nat, j ≤ n ∧ i = .int .i64 j ∧ Aside0 (Kd.bool.C wr A5 n R) ∧ Aside0 (Kd.bool.C wr A6 n R) ∧ Aside0 (KL.C wr A3 n P) ∧ Aside0 (KL.C wr A4 n P) ∧ Aside0 (Below w.heap.size w wr)) (fun i _ => n - (intOf i).toNat)
      case atStart => exact ⟨0, by omega, rfl, hC5, hC6, hC3, hC4, hB⟩
      case round =>
        obtain ⟨j, hj, rfl, hC5', hC6', hC3', hC4', hB'⟩ := hrel
        clear hC5 hC6 hC3 hC4 hB
        by_cases hlt : j < n
        · obtain ⟨a3, B3, d3, e, x3, l3, g3⟩ := atL hC3'.out j hlt
          cases e
          obtain ⟨a4, B4, d4, e, x4, l4, g4⟩ := atL hC4'.out j hlt
          cases e
          obtain ⟨a5, e, x5⟩ := Kd.at_bool hC5'.out j (by omega) (by omega)
          cases e
          obtain ⟨a6, e, x6⟩ := Kd.at_bool hC6'.out j (by omega) (by omega)
          cases e
          simp only [Int.toNat_natCast] at x5 x6
          have hs : Aside0 (∀ m, Calls Try.prog 18 #[.slice B3 (P.getD j []).length d3, .slice B4 (P.getD j []).length d4] (wr.drewN m) fun e w' => e = .returned (.bool true) ∧ ∃ n, w' = (wr.drewN m).drewN n) :=
            ⟨fun m => (rsame (w := wr.drewN m) ⟨Kd.C_below g3 (bdn (Below.refl _ _) m)⟩ ⟨Kd.C_below g4 (bdn (Below.refl _ _) m)⟩).mono fun _ _ h => ⟨by rw [h.1]; simp, h.2⟩⟩
          clear g3 g4
          generalize P.getD j [] = p at *
          generalize rdOf false R (j : Int) = r at *
          have q2 : (r != r) = false := by simp
          go_wp2
          go_quiet ((go_at_call 18; exact Calls.quiet_of (hs.out _)))
          go_wp2
          exact ⟨⟨j + 1, by omega, by go_num, ⟨Kd.C_below hC5'.out (bdn (Below.refl _ _) _)⟩, ⟨Kd.C_below hC6'.out (bdn (Below.refl _ _) _)⟩, ⟨Kd.C_below hC3'.out (bdn (Below.refl _ _) _)⟩, ⟨Kd.C_below hC4'.out (bdn (Below.refl _ _) _)⟩, ⟨bdn hB'.out _⟩⟩, by simp [intOf]; omega⟩
        · obtain rfl : j = n := by omega
          go_wp2_with ((with_reducible refine (awake _).mono ?_); rintro e w' ⟨rfl, hb⟩)
          go_ret
          exact ⟨rfl, below_step hB'.out hb⟩
end Go.Proofs.Ytobikiffjanagaa.IrA
