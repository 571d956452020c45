/- Scopes: the law of blocks. -/
import Derived.Test.YtojmhcmgnndfgaaScR
namespace Go.Proofs.Ytojmhcmgnndfgaa.Sc
open Go.RowKit Go.Proofs.YtojmhcmgnndfgaaW.PrintWords
set_option linter.unusedVariables false
set_option linter.unusedSimpArgs false

/-- The blocks st0 lie below all that st has. -/
structure Ab (st0 st : List Blk) (j : Nat) : Prop where
  tk : st.take st0.length = st0
  lo : st0.length ≤ st.length
  hi : st.length ≤ st0.length + j
theorem Ab.ent {st0 st : List Blk} {j : Nat} (a : Ab st0 st j) : Ab st0 (st ++ [[]]) (j + 1) :=
  ⟨by rw [List.take_append_of_le_length a.lo, a.tk], by have := a.lo; simp; omega, by have := a.hi; simp; omega⟩
theorem Ab.lv {st0 st : List Blk} {j : Nat} (a : Ab st0 st j) (h : st0.length < st.length) : Ab st0 (lv st) j := by
  unfold Sc.lv
  by_cases h2 : st.length < 2
  · rw [if_pos h2]; exact a
  · rw [if_neg h2]
    exact ⟨by rw [List.take_take, Nat.min_eq_left (by omega), a.tk], by rw [List.length_take]; omega, by have := a.hi; rw [List.length_take]; omega⟩
theorem lv_length {st : List Blk} (h : 2 ≤ st.length) : (lv st).length = st.length - 1 := by
  unfold Sc.lv
  rw [if_neg (by omega), List.length_take]
  omega
theorem Ab.mono {st0 st : List Blk} {j k : Nat} (a : Ab st0 st j) (h : j ≤ k) : Ab st0 st k := ⟨a.tk, a.lo, by have := a.hi; omega⟩
theorem Ab.step {st0 st : List Blk} {j : Nat} (a : Ab st0 st j) (h : st0.length < st.length) (d : Int) (s : ByteArray) (x : Int) (hd : d = 2 → st0.length + 1 < st.length) : Ab st0 (step st d s x) (j + 1) ∧ st0.length < (step st d s x).length := by
  unfold Sc.step
  by_cases e0 : d = 0
  · rw [if_pos e0]
    unfold dcl
    split
    · exact ⟨a.mono (by omega), h⟩
    · rw [add_split _ _ _ (by omega)]
      have hl : (st.take (st.length - 1)).length = st.length - 1 := by rw [List.length_take]; omega
      have hi := a.hi
      refine ⟨⟨?_, by simp; omega, by simp; omega⟩, by simp; omega⟩
      rw [List.take_append_of_le_length (by omega), List.take_take, Nat.min_eq_left (by omega), a.tk]
  rw [if_neg e0]
  by_cases e1 : d = 1
  · rw [if_pos e1]
    exact ⟨a.ent, by simp; omega⟩
  rw [if_neg e1]
  by_cases e2 : d = 2
  · rw [if_pos e2]
    have := hd e2
    exact ⟨(a.lv h).mono (by omega), by rw [lv_length (by omega)]; omega⟩
  · rw [if_neg e2]
    exact ⟨a.mono (by omega), h⟩
theorem Ab.same {st0 st : List Blk} {j : Nat} (a : Ab st0 st j) (h : st.length = st0.length) : st = st0 := by
  rw [← a.tk, ← h, List.take_length]

/-- A play of the program's scope and of a new one of the reference's: the reference's old one stays. -/
theorem tw_inner {w w1 w2 : World} {B g1 g2 g3 j1 j2 k1 k2 : Nat} {st st0 t1 t2 : List Blk} (t : Tw w B B g1 g2 st st0 j1 j2) (b : Below w.heap.size w w1) (m : Mv B w.heap.size w1 w2) (t2' : Tw w2 B w.heap.size g1 g3 t1 t2 k1 k2) : Tw w2 B B g1 g2 t1 st0 k1 j2 ∧ Below B w w2 := by
  obtain ⟨v, r⟩ := t.r
  have f : Fr GP w w2 := ⟨m.b.os.trans b.os, m.b.tape.trans b.tape, m.b.output.trans b.output, Nat.le_trans b.size m.b.size, fun k o hk hG => m.c k o (blk_lt hk) ((b.block k (blk_lt hk)).trans hk) hG⟩
  exact ⟨⟨t2'.p, ⟨v, r.fr f⟩, t2'.o1, t.o2, Nat.le_refl _, Nat.le_trans t.hC f.size⟩, (Below.lower b t.hB).trans m.b⟩
theorem tw_fresh {w w1 : World} {B g1 g2 g3 j1 j2 : Nat} {v : Value} {st st0 : List Blk} (t : Tw w B B g1 g2 st st0 j1 j2) (b : Below w.heap.size w w1) (r : RS w1 w.heap.size g3 v [] 1) : Tw w1 B w.heap.size g1 g3 st [[]] j1 0 :=
  ⟨(t.mv0 b).p, ⟨v, r⟩, t.o1, ok_new, t.hB, b.size⟩

theorem ok_lv0 {st : List Blk} {j : Nat} (o : Ok st j) : Ok (lv st) j := by
  unfold lv
  by_cases h : st.length < 2
  · rw [if_pos h]; exact o
  · rw [if_neg h]
    have hl : (st.take (st.length - 1)).length = st.length - 1 := by rw [List.length_take]; omega
    refine ⟨by omega, by have := o.len; omega, ?_, fun b hb => o.nd b (List.mem_of_mem_take hb)⟩
    have := o.all
    rw [flat_split st o.one, List.length_append] at this
    omega

set_option maxHeartbeats 8000000 in
set_option maxRecDepth 100000 in
theorem blocks {w : World} {A A2 : Option Addr} (c c2 : Nat) {l l2 : List A29} (hl : Aside0 (k29.C w A l.length l)) (hl2 : Aside0 (k29.C w A2 l2.length l2)) (hsz : l.length * 32 ≤ 140737488351232) (hsz2 : l2.length * 32 ≤ 140737488351232) :
    Calls Try.prog 4 #[.slice A l.length c, .slice A2 l2.length c2] w (Yes w) := by
  have hmx := Kd.C_max hl.out
  have hmx2 := Kd.C_max hl2.out
  go_enter Try.func4, Try.ntmps4
  go_wp2_with fail
  (with_reducible refine (new w).mono ?_)
  rintro e w1 ⟨g1, v1, m1, rfl, p1, b1⟩
  have p1 := Aside0.mk p1
  have b1 := Aside0.mk b1
  go_wp2_with fail
  (with_reducible refine (rnew w1).mono ?_)
  rintro e w2 ⟨g2, v2, rfl, p2, b2⟩
  have hT : Aside0 (Tw w2 w.heap.size w.heap.size g1 g2 (steps [[]] (l.take 0)) (steps [[]] (l.take 0)) 0 0) := by
    refine ⟨⟨_, _, p1.out.below b2⟩, ⟨v2, ?_⟩, ok_new, ok_new, Nat.le_refl _, Nat.le_trans b1.out.size b2.size⟩
    exact ⟨p2.cell, ⟨p2.row.1, p2.row.2.imp id fun ⟨g, cap, cur, a1, a2, a3⟩ => ⟨g, cap, cur, a1, Nat.le_trans b1.out.size a2, a3⟩⟩, Nat.le_trans b1.out.size p2.bg⟩
  have hB : Aside0 (Below w.heap.size w w2) := ⟨below_step b1.out b2⟩
  clear p1 p2 b1 b2
  go_wp2
  go_loopw [7] (fun i wr => ∃ j : Nat, j ≤ l.length ∧ i = .int .i64 j ∧ Aside0 (Tw wr w.heap.size w.heap.size g1 g2 (steps [[]] (l.take j)) (steps [[]] (l.take j)) j j) ∧ Aside0 (Below w.heap.size w wr)) (fun i _ => l.length - (intOf i).toNat)
  case atStart => exact ⟨0, by omega, rfl, hT, hB⟩
  case round =>
    obtain ⟨j, hj, rfl, hT2, hB2⟩ := hrel
    clear hT hB
    by_cases hlt : j < l.length
    · obtain ⟨ad, e, c0, c1, c2⟩ := at29 hl.out j hlt
      cases e
      have hst := Aside0.mk (steps_snoc [[]] l j hlt)
      replace c0 := (hB2.out.cell (World.block_lt_of_cell? w _ c0)).trans c0
      replace c1 := (hB2.out.cell (World.block_lt_of_cell? w _ c1)).trans c1
      replace c2 := (hB2.out.cell (World.block_lt_of_cell? w _ c2)).trans c2
      generalize l.getD j z29 = x at *
      obtain ⟨dd, ss, xx⟩ := x
      dsimp only at c0 c1 c2 hst
      have hpl := Aside0.mk (play hT2 dd ss xx (by omega) (by omega))
      rw [← hst.out] at hpl
      clear hst
      generalize hsn : steps [[]] (l.take (j + 1)) = sn at *
      have hsn := Aside0.mk hsn
      go_wp2_with fail
      refine hpl.out.mono ?_
      rintro e w3 ⟨bb, rfl, hbb, hT3, hM3⟩
      have hB3 : Aside0 (Below w.heap.size w w3) := ⟨hB2.out.trans hM3.out.b⟩
      clear hM3 hbb
      go_wp2
      exact ⟨⟨j + 1, by omega, by go_num, ⟨by rw [hsn.out]; exact hT3.out⟩, hB3⟩, by simp [intOf]; omega⟩
    · obtain rfl : j = l.length := by omega
      rw [List.take_length] at hT2
      generalize steps [[]] l = st0 at *
      have hA : Aside0 (Ab st0 (st0 ++ [[]]) 1) := ⟨(Ab.mk (List.take_length) (Nat.le_refl _) (Nat.le_refl _) : Ab st0 st0 0).ent⟩
      have hone := hT2.out.o1.one
      have htwo := hT2.out.o1.len
      go_wp2_with ((with_reducible refine (p_dep hT2).mono ?_); rintro e w' ⟨rfl, rfl⟩)
      go_wp2_with fail
      (with_reducible refine (p_ent hT2 (by omega)).mono ?_)
      rintro e w4 ⟨rfl, hT4, hM4⟩
      have hB4 : Aside0 (Below w.heap.size w w4) := ⟨hB2.out.trans hM4.out.b⟩
      clear hM4 hT2 hB2
      go_wp2
      go_loopw [9] (fun i wr => ∃ (j : Nat) (st : List Blk), j ≤ l2.length ∧ i = .int .i64 j ∧ Aside0 (Tw wr w.heap.size w.heap.size g1 g2 st st0 (l.length + 1 + j) l.length) ∧ Aside0 (Below w.heap.size w wr) ∧ Aside0 (Ab st0 st (j + 1)) ∧ st0.length < st.length) (fun i _ => l2.length - (intOf i).toNat)
      case atStart => exact ⟨0, _, by omega, rfl, hT4, hB4, hA, by simp⟩
      case round =>
        obtain ⟨j, st, hj, rfl, hT5, hB5, hA5, hgt⟩ := hrel
        have hhi := hA5.out.hi
        clear hT4 hB4 hA
        by_cases hlt : j < l2.length
        · obtain ⟨ad, e, c0, c1, c2⟩ := at29 hl2.out j hlt
          cases e
          replace c0 := (hB5.out.cell (World.block_lt_of_cell? w _ c0)).trans c0
          replace c1 := (hB5.out.cell (World.block_lt_of_cell? w _ c1)).trans c1
          replace c2 := (hB5.out.cell (World.block_lt_of_cell? w _ c2)).trans c2
          generalize l2.getD j z29 = x at *
          obtain ⟨dd, ss, xx⟩ := x
          dsimp only at c0 c1 c2
          by_cases hd : dd = 2 ∧ st.length ≤ st0.length + 1
          · obtain ⟨rfl, hd⟩ := hd
            have q1 : decide ((st.length : Int) ≤ (st0.length : Int) + 1) = true := by simp; omega
            go_wp2_with ((with_reducible refine (p_dep hT5).mono ?_); rintro e w' ⟨rfl, rfl⟩)
            exact ⟨⟨j + 1, st, by omega, by go_num, ⟨hT5.out.mono (by omega) (by omega)⟩, hB5, ⟨hA5.out.mono (by omega)⟩, hgt⟩, by simp [intOf]; omega⟩
          · skip
            have hd3 : dd = 2 → st0.length + 1 < st.length := fun e => by have := fun h => hd ⟨e, h⟩; omega
            have hsx := Aside0.mk (hA5.out.step hgt dd ss xx hd3)
            have hx : Aside0 (∀ (w5 w6 : World) (g3 : Nat) (v3 : Value), Below wr.heap.size wr w5 → Below w5.heap.size w5 w6 → RS w6 w5.heap.size g3 v3 [] 1 →
                Calls Try.prog 8 #[P1 g1, P1 g3, actV dd ss xx] w6 fun e w7 => ∃ bb, e = .returned (.bool bb) ∧ Aside0 (Tw w7 w.heap.size w.heap.size g1 g2 (step st dd ss xx) st0 (l.length + 1 + j + 1) l.length) ∧ Aside0 (Below w.heap.size w w7)) := by
              refine ⟨fun w5 w6 g3 v3 q1 q2 q3 => ?_⟩
              have T5 := hT5.out.mv0 q1
              refine (play ⟨tw_fresh T5 q2 q3⟩ dd ss xx (by omega) (by omega)).mono ?_
              rintro e w7 ⟨bb, rfl, _, T7, M7⟩
              obtain ⟨T8, B8⟩ := tw_inner T5 q2 M7.out T7.out
              exact ⟨bb, rfl, ⟨T8⟩, ⟨(below_step hB5.out q1).trans B8⟩⟩
            by_cases hd2 : dd = 2
            · subst hd2
              have q1 : decide ((st.length : Int) ≤ (st0.length : Int) + 1) = false := by have := hd3 rfl; simp; omega
              clear hd3
              go_wp2_with ((with_reducible refine (p_dep hT5).mono ?_); rintro e w' ⟨rfl, rfl⟩)
              go_region_with (first
                | (go_at_call 7; (with_reducible refine (rnew _).mono ?_); rintro e w6 ⟨g3, v3, rfl, p6, b6⟩; have p6 := Aside0.mk p6; have b6 := Aside0.mk b6; have k0 := (b6.out.cell (World.block_lt_of_cell? _ _ c0)).trans c0; have k1 := (b6.out.cell (World.block_lt_of_cell? _ _ c1)).trans c1; have k2 := (b6.out.cell (World.block_lt_of_cell? _ _ c2)).trans c2)
                | (go_at_call 8; ((with_reducible refine (hx.out _ _ _ _ (by exact ⟨rfl, rfl, rfl, Nat.le_refl _, fun _ _ => rfl⟩) b6.out p6.out).mono ?_)); rintro e w9 ⟨bb, rfl, hT9, hB9⟩))
              all_goals
                go_wp2
                exact ⟨⟨j + 1, _, by omega, by go_num, hT9, hB9, ⟨hsx.out.1⟩, hsx.out.2⟩, by simp [intOf]; omega⟩
            · have q1 : (dd == 2) = false := by simpa using hd2
              clear hd2 hd3
              go_wp2
              go_region_with (first
                | (go_at_call 7; (with_reducible refine (rnew _).mono ?_); rintro e w6 ⟨g3, v3, rfl, p6, b6⟩; have p6 := Aside0.mk p6; have b6 := Aside0.mk b6; have k0 := (b6.out.cell (World.block_lt_of_cell? _ _ c0)).trans c0; have k1 := (b6.out.cell (World.block_lt_of_cell? _ _ c1)).trans c1; have k2 := (b6.out.cell (World.block_lt_of_cell? _ _ c2)).trans c2)
                | (go_at_call 8; ((with_reducible refine (hx.out _ _ _ _ (by exact ⟨rfl, rfl, rfl, Nat.le_refl _, fun _ _ => rfl⟩) b6.out p6.out).mono ?_)); rintro e w9 ⟨bb, rfl, hT9, hB9⟩))
              all_goals
                go_wp2
                exact ⟨⟨j + 1, _, by omega, by go_num, hT9, hB9, ⟨hsx.out.1⟩, hsx.out.2⟩, by simp [intOf]; omega⟩
        · obtain rfl : j = l2.length := by omega
          go_wp2
          go_loopw [10] (fun i wr2 => ∃ (n : Nat) (st2 : List Blk), n ≤ l2.length + 1 ∧ i = .int .i64 n ∧ Aside0 (Tw wr2 w.heap.size w.heap.size g1 g2 st2 st0 (l.length + 1 + l2.length) l.length) ∧ Aside0 (Below w.heap.size w wr2) ∧ Aside0 (Ab st0 st2 (l2.length + 1 - n))) (fun i _ => l2.length + 1 - (intOf i).toNat)
          case atStart => exact ⟨0, st, by omega, rfl, hT5, hB5, hA5⟩
          case round =>
            obtain ⟨n, st2, hn, rfl, hT6, hB6, hA6⟩ := hrel
            have hhi6 := hA6.out.hi
            have hlo6 := hA6.out.lo
            clear hT5 hB5 hA5 hgt hhi
            by_cases hgt : st0.length < st2.length
            · have q1 : decide ((st0.length : Int) < (st2.length : Int)) = true := by simp; omega
              have q2 : decide (st0.length < st2.length) = true := by simp; omega
              have hA7 := Aside0.mk (hA6.out.lv hgt)
              have hl7 := lv_length (st := st2) (by omega)
              have ho7 := Aside0.mk (ok_lv0 hT6.out.o1)
              have hl7' : (lv st2).length ≤ st0.length + (l2.length + 1 - (n + 1)) := by omega
              clear hl7
              go_wp2_with (first | ((with_reducible refine (p_dep hT6).mono ?_); rintro e w' ⟨rfl, rfl⟩) | ((with_reducible refine (p_lv hT6 (by omega)).mono ?_); rintro e w7 ⟨rfl, hT7, hM7⟩))
              exact ⟨⟨n + 1, _, by omega, by go_num, ⟨⟨hT7.out.p, hT7.out.r, ho7.out, hT7.out.o2, hT7.out.hBC, hT7.out.hC⟩⟩, ⟨hB6.out.trans hM7.out.b⟩, ⟨⟨hA7.out.tk, hA7.out.lo, hl7'⟩⟩⟩, by simp [intOf]; omega⟩
            · have hlen : st2.length = st0.length := by omega
              have := hA6.out.same hlen
              subst this
              have q1 : decide ((st2.length : Int) < (st2.length : Int)) = false := by simp
              have q2 : decide (st2.length < st2.length) = false := by simp
              clear hA6 hhi6 hlo6 hgt hlen
              by_cases hnn : n ≤ l2.length
              all_goals
                go_wp2_with ((with_reducible refine (p_dep hT6).mono ?_); rintro e w' ⟨rfl, rfl⟩)
                clear q1 q2
                go_loopw [11] (fun i wr3 => ∃ j : Nat, j ≤ l.length + l2.length ∧ i = .int .i64 j ∧ wr3 = wr) (fun i _ => l.length + l2.length - (intOf i).toNat)
                case atStart => exact ⟨0, by omega, rfl, by first | trivial | rfl⟩
                case round =>
                  obtain ⟨j, hj, rfl, rfl⟩ := hrel
                  by_cases hlt : j < l.length
                  · obtain ⟨ad, e, c0, c1, c2⟩ := at29 hl.out j hlt
                    cases e
                    replace c1 := (hB6.out.cell (World.block_lt_of_cell? w _ c1)).trans c1
                    clear c0 c2
                    generalize l.getD j z29 = x at *
                    have q1 := Aside0.mk (p_find hT6 x.s (by omega))
                    have q2 := Aside0.mk (r_find hT6 x.s (by omega))
                    generalize pf st2 x.s = r at *
                    obtain ⟨r1, r2⟩ := r
                    go_wp2_with (first | ((with_reducible refine q1.out.mono ?_); rintro e w' ⟨rfl, rfl⟩) | ((with_reducible refine q2.out.mono ?_); rintro e w' ⟨rfl, rfl⟩))
                    exact ⟨⟨j + 1, by omega, by go_num, trivial⟩, by simp [intOf]; omega⟩
                  · by_cases hlt2 : j < l.length + l2.length
                    · obtain ⟨ad, e, c0, c1, c2⟩ := at29 hl2.out (j - l.length) (by omega)
                      cases e
                      replace c1 := (hB6.out.cell (World.block_lt_of_cell? w _ c1)).trans c1
                      have e1 : ((j : Int) - (l.length : Int)).toNat = j - l.length := by omega
                      have e2 : (0 : Int) ≤ (j : Int) - (l.length : Int) := by omega
                      clear c0 c2
                      generalize l2.getD (j - l.length) z29 = x at *
                      have q1 := Aside0.mk (p_find hT6 x.s (by omega))
                      have q2 := Aside0.mk (r_find hT6 x.s (by omega))
                      generalize pf st2 x.s = r at *
                      obtain ⟨r1, r2⟩ := r
                      go_wp2_with (first | ((with_reducible refine q1.out.mono ?_); rintro e w' ⟨rfl, rfl⟩) | ((with_reducible refine q2.out.mono ?_); rintro e w' ⟨rfl, rfl⟩))
                      exact ⟨⟨j + 1, by omega, by go_num, trivial⟩, by simp [intOf]; omega⟩
                    · obtain rfl : j = l.length + l2.length := by omega
                      go_wp2_with (first | ((with_reducible refine (p_dep hT6).mono ?_); rintro e w' ⟨rfl, rfl⟩) | ((with_reducible refine (awake _).mono ?_); rintro e w' ⟨rfl, hb⟩))
                      go_ret
                      exact ⟨by first | rfl | simp, below_step hB6.out hb⟩
end Go.Proofs.Ytojmhcmgnndfgaa.Sc
