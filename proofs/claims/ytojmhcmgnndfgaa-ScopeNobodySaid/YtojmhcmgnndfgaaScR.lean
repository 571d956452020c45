/- Scopes: acts as they come in; the law of plays. -/
import Derived.Test.YtojmhcmgnndfgaaScQ
import Derived.Test.YtojmhcmgnndfgaaOpn
import Derived.Deep.RegionWith
namespace Go.Proofs.Ytojmhcmgnndfgaa.Sc
open Go.RowKit Go.Proofs.YtojmhcmgnndfgaaW.PrintWords
set_option linter.unusedVariables false
set_option linter.unusedSimpArgs false

/-- Something that is done to scopes. -/
structure A29 where
  d : Int
  s : ByteArray
  x : Int
def k29 : Kd A29 := Kd.iso (Kd.pair (Kd.int .i64) (Kd.pair Kd.string (Kd.int .i64))) (fun x : A29 => (x.d, x.s, x.x))
theorem k29_open {w : World} {x : A29} {cs : List Value} (h : k29.K w x cs) : cs = [.int .i64 x.d, .string x.s, .int .i64 x.x] := by
  obtain ⟨_, _, rfl, rfl, ⟨_, _, rfl, rfl, rfl⟩⟩ := h
  exact rfl
def z29 : A29 := ⟨0, ⟨#[]⟩, 0⟩
theorem at29 {w : World} {A : Option Addr} {n : Nat} {xs : List A29} (h : Kd.C k29 w A n xs) (j : Nat) (h1 : j < n) : ∃ ad, A = some ad ∧ w.cell? (ad.add (j * 3)) = some (.int .i64 (xs.getD j z29).d) ∧ w.cell? ⟨(ad.add (j * 3)).block, (ad.add (j * 3)).off + 1, none⟩ = some (.string (xs.getD j z29).s) ∧ w.cell? ⟨(ad.add (j * 3)).block, (ad.add (j * 3)).off + 2, none⟩ = some (.int .i64 (xs.getD j z29).x) := by
  obtain ⟨ad, c, e, _, hK, hc0⟩ := Kd.C_get h z29 (j : Int) (by omega) (by omega)
  rw [Int.toNat_natCast] at hK hc0
  have hc : ∀ i u, c[i]? = some u → w.cell? (ad.add (j * 3 + i)) = some u := hc0
  obtain rfl := k29_open hK
  exact ⟨ad, e, hc 0 _ rfl, by rw [← add_field _ _ 1 (by omega)]; exact hc 1 _ rfl, by rw [← add_field _ _ 2 (by omega)]; exact hc 2 _ rfl⟩
/-- Its parts are of their kinds. -/
def g29 (x : A29) : Prop := Opn.InK .i64 x.d ∧ x.s.size ≤ 140737488351232 ∧ Opn.InK .i64 x.x
theorem o29 : Opn.Opn Try.prog 29 k29 g29 := Opn.imp (Opn.struct (fun x : A29 => (x.d, x.s, x.x)) (fun p => ⟨p.1, p.2.1, p.2.2⟩) (fun _ => rfl) Try.underlying29 (by kernel_rfl) (Opn.more rfl (by kernel_rfl) (Opn.int (by kernel_rfl)) (by decide) (Opn.more rfl (by kernel_rfl) (Opn.string (by kernel_rfl)) (by decide) (Opn.last rfl (by kernel_rfl) (Opn.int (by kernel_rfl)))))) (fun a h => h)
theorem o22 : Opn.Opn Try.prog 22 (Kd.slice 29 k29) (fun l => l.length * 32 ≤ 140737488351232 ∧ ∀ x ∈ l, g29 x) := Opn.slice 32 Try.underlying22 (by kernel_rfl) (by kernel_rfl) o29

def steps (st : List Blk) (l : List A29) : List Blk := l.foldl (fun st a => step st a.d a.s a.x) st
theorem steps_snoc (st : List Blk) (l : List A29) (j : Nat) (h : j < l.length) : steps st (l.take (j + 1)) = step (steps st (l.take j)) (l.getD j z29).d (l.getD j z29).s (l.getD j z29).x := by
  unfold steps
  rw [List.take_succ_eq_append_getElem h, List.foldl_append, List.getD_eq_getElem?_getD, List.getElem?_eq_getElem h]
  rfl

set_option maxHeartbeats 8000000 in
set_option maxRecDepth 100000 in
theorem plays {w : World} {A : Option Addr} (c : Nat) {l : List A29} (hl : Aside0 (k29.C w A l.length l)) (hsz : l.length * 32 ≤ 140737488351232) :
    Calls Try.prog 3 #[.slice A l.length c] w (Yes w) := by
  have hmx := Kd.C_max hl.out
  go_enter Try.func3, Try.ntmps3
  go_wp2_with fail
  (with_reducible refine (new w).mono ?_)
  rintro e w1 ⟨g1, v1, m1, rfl, p1, b1⟩
  have p1 := Aside0.mk p1
  have b1 := Aside0.mk b1
  go_wp2_with fail
  (with_reducible refine (rnew w1).mono ?_)
  rintro e w2 ⟨g2, v2, rfl, p2, b2⟩
  have hT : Aside0 (Tw w2 w.heap.size w.heap.size g1 g2 (steps [[]] (l.take 0)) (steps [[]] (l.take 0)) 0 0) := by
    refine ⟨⟨_, _, p1.out.below b2⟩, ⟨v2, ?_⟩, ok_new, ok_new, Nat.le_refl _, Nat.le_trans b1.out.size b2.size⟩
    exact ⟨p2.cell, ⟨p2.row.1, p2.row.2.imp id fun ⟨g, cap, cur, a1, a2, a3⟩ => ⟨g, cap, cur, a1, Nat.le_trans b1.out.size a2, a3⟩⟩, Nat.le_trans b1.out.size p2.bg⟩
  have hB : Aside0 (Below w.heap.size w w2) := ⟨below_step b1.out b2⟩
  clear p1 p2 b1 b2
  go_wp2
  go_loopw [5] (fun i wr => ∃ j : Nat, j ≤ l.length ∧ i = .int .i64 j ∧ Aside0 (Tw wr w.heap.size w.heap.size g1 g2 (steps [[]] (l.take j)) (steps [[]] (l.take j)) j j) ∧ Aside0 (Below w.heap.size w wr)) (fun i _ => l.length - (intOf i).toNat)
  case atStart => exact ⟨0, by omega, rfl, hT, hB⟩
  case round =>
    obtain ⟨j, hj, rfl, hT2, hB2⟩ := hrel
    clear hT hB
    by_cases hlt : j < l.length
    · obtain ⟨ad, e, c0, c1, c2⟩ := at29 hl.out j hlt
      cases e
      have hst := Aside0.mk (steps_snoc [[]] l j hlt)
      replace c0 := (hB2.out.cell (World.block_lt_of_cell? w _ c0)).trans c0
      replace c1 := (hB2.out.cell (World.block_lt_of_cell? w _ c1)).trans c1
      replace c2 := (hB2.out.cell (World.block_lt_of_cell? w _ c2)).trans c2
      generalize l.getD j z29 = x at *
      obtain ⟨dd, ss, xx⟩ := x
      dsimp only at c0 c1 c2 hst
      have hTd := Aside0.mk hT2.out.drew
      have hpl := Aside0.mk (play hTd dd ss xx (by omega) (by omega))
      rw [← hst.out] at hpl
      clear hst
      generalize hsn : steps [[]] (l.take (j + 1)) = sn at *
      have hsn := Aside0.mk hsn
      go_wp2
      go_region_with (first
        | (go_at_call 8; refine hpl.out.mono ?_; rintro e w3 ⟨bb, rfl, hbb, hT3, hM3⟩; obtain rfl := hbb rfl; have hN3 := hT3.out.n)
        | (go_at_call 9; refine (p_dep (by assumption)).mono ?_; rintro e w' ⟨rfl, rfl⟩))
      all_goals
        have hB3 : Aside0 (Below w.heap.size w w3) := ⟨(hB2.out.trans (Mv.drew (C := 0) _).b).trans hM3.out.b⟩
        clear hM3
        go_wp2
        exact ⟨⟨j + 1, by omega, by go_num, ⟨by rw [hsn.out]; exact hT3.out⟩, hB3⟩, by simp [intOf]; omega⟩
    · obtain rfl : j = l.length := by omega
      rw [List.take_length] at hT2
      generalize steps [[]] l = st at *
      go_wp2
      go_loopw [6] (fun i wr2 => ∃ j : Nat, j ≤ l.length ∧ i = .int .i64 j ∧ wr2 = wr) (fun i _ => l.length - (intOf i).toNat)
      case atStart => exact ⟨0, by omega, rfl, by first | trivial | rfl⟩
      case round =>
        obtain ⟨j, hj, rfl, rfl⟩ := hrel
        by_cases hlt : j < l.length
        · obtain ⟨ad, e, c0, c1, c2⟩ := at29 hl.out j hlt
          cases e
          replace c1 := (hB2.out.cell (World.block_lt_of_cell? w _ c1)).trans c1
          clear c0 c2
          generalize l.getD j z29 = x at *
          have q1 := Aside0.mk (p_find hT2 x.s (by omega))
          have q2 := Aside0.mk (r_find hT2 x.s (by omega))
          generalize pf st x.s = r at *
          obtain ⟨r1, r2⟩ := r
          go_wp2_with (first | ((with_reducible refine q1.out.mono ?_); rintro e w' ⟨rfl, rfl⟩) | ((with_reducible refine q2.out.mono ?_); rintro e w' ⟨rfl, rfl⟩))
          exact ⟨⟨j + 1, by omega, by go_num, trivial⟩, by simp [intOf]; omega⟩
        · obtain rfl : j = l.length := by omega
          go_wp2_with ((with_reducible refine (awake _).mono ?_); rintro e w' ⟨rfl, hb⟩)
          go_ret
          exact ⟨by first | rfl | simp, below_step hB2.out hb⟩
end Go.Proofs.Ytojmhcmgnndfgaa.Sc
