-- laid by given.sh
import Derived.Test.YtiogfhmmepepdaaGx0
import Derived.Test.YtiogfhmmepepdaaGx1
import Derived.Test.YtiogfhmmepepdaaGx4
namespace Go.Proofs.Ytiogfhmmepepdaa.G
open Go.RowKit Go.Proofs.YtiogfhmmepepdaaW.PrintWords Go.Proofs.YtiogfhmmepepdaaW.PrintLast Go.Proofs.YtiogfhmmepepdaaW.PrintMore
attribute [local go_sem] max2_int min2_int max_two min_two max_three min_three max_four min_four   -- for this text's walks alone
set_option linter.unusedVariables false
set_option linter.unusedSimpArgs false

-- dev: YtiogfhmmepepdaaPIsaUsesx2 Derived.Lib.Hide Derived.Outline |
/-! ### isa_Reads: function 14 (by hand: a closure, function 23, appends to a slice that it captured) -/
def isa_Reads.push (l : List Int) (r : Int) (b : Bool) : List Int := if (b && !l.contains r) = true then l ++ [r] else l
def isa_Reads.f (k : Nat) (a0_0 : Int) (a0_1 : Int) (a0_2 : Int) (a0_3 : Int) (a0_4 : Int) : Option (List Int) :=
  (isa_Check.f k a0_0 a0_1 a0_2 a0_3 a0_4).bind fun t => if t = 0 then ((isa_parts.f k a0_0).bind fun h => some (isa_Reads.push (isa_Reads.push (isa_Reads.push [] a0_1 ((Go.bits .and .i64 h 128) != 0)) a0_2 ((Go.bits .and .i64 h 2) != 0)) a0_3 ((Go.bits .and .i64 h 4) != 0))) else some []
theorem isa_Reads.mono : ∀ a0 a1 a2 a3 a4 k, LeO (isa_Reads.f k a0 a1 a2 a3 a4) (isa_Reads.f (k + 1) a0 a1 a2 a3 a4) := by
  intro a0 a1 a2 a3 a4 k
  unfold isa_Reads.f
  repeat' first
      | (with_reducible exact isa_Check.mono _ _ _ _ _ _)
      | (with_reducible exact isa_parts.mono _ _)
      | (with_reducible exact LeO.refl _)
      | (with_reducible refine LeO.ite ?_ ?_)
      | (with_reducible refine LeO.bind ?_ (fun _ => ?_))
theorem isa_Reads.push_len (l : List Int) (r : Int) (b : Bool) : (isa_Reads.push l r b).length ≤ l.length + 1 := by unfold isa_Reads.push; split <;> simp
def isa_Reads.out (g B : Nat) (w0 : World) (l : List Int) (e : Ending) (w' : World) : Prop :=
  ∃ v', e = .returned (.tuple #[]) ∧ w'.heap[g]? = some (.cells #[v'] 35 (0, 0)) ∧ Kd.R (Kd.int .i64) 3 w' B (fun _ => True) v' l ∧ Below B w0 w'
theorem isa_Reads.take_has (l : List Int) (j : Nat) (h : j < l.length) (r : Int) (b : Bool) : (b && !(l.take (j + 1)).contains r) = ((b && !(l.take j).contains r) && (rd l j != r)) := by
  have e : rd l j = l[j] := by unfold rd; simp [List.getD_eq_getElem?_getD, List.getElem?_eq_getElem h]
  have h2 : (l.take j ++ [l[j]]).contains r = ((l.take j).contains r || l[j] == r) := by
    rw [Bool.eq_iff_iff]
    simp only [List.contains_iff_mem, List.mem_append, List.mem_singleton, Bool.or_eq_true, beq_iff_eq]
    constructor
    · rintro (h | h)
      · exact .inl h
      · exact .inr h.symm
    · rintro (h | h)
      · exact .inl h
      · exact .inr h.symm
  rw [List.take_succ_eq_append_getElem h, e, h2]
  cases b <;> cases (l.take j).contains r <;> rfl
set_option maxHeartbeats 8000000 in
set_option maxRecDepth 100000 in
theorem isa_Reads.lit (g B : Nat) (l : List Int) (v : Value) (r : Int) (b : Bool) (w0 w : World) (hg : Aside0 (w.heap[g]? = some (.cells #[v] 35 (0, 0)))) (hR : Aside0 (Kd.R (Kd.int .i64) 3 w B (fun _ => True) v l)) (hB : Aside0 (Below B w0 w)) (hBg : Aside0 (B ≤ g)) (hBw : Aside0 (B ≤ w.heap.size)) (hl : l.length ≤ 1000) :
    Calls Try.prog 23 #[.int .i64 r, .bool b, .pointer (some ⟨g, 0, none⟩)] w (isa_Reads.out g B w0 (isa_Reads.push l r b)) := by
  obtain ⟨A, c, rfl⟩ := Kd.R_slice hR.out
  have hrd := Aside0.mk (Kd.R_reads' hR.out).2.2
  have hc : w.cell? ⟨g, 0, none⟩ = some (.slice A l.length c) := (blk_cell hg.out 0).trans rfl
  have hf := blk_frozen hg.out 0
  go_enter Try.func23, Try.ntmps23
  go_wp2
  go_loop [1, 9] (fun x i => ∃ j : Nat, j ≤ l.length ∧ i = .int .i64 j ∧ x = .bool (b && !(l.take j).contains r)) (fun _ i => l.length - (intOf i).toNat)
  case atStart => exact ⟨0, by omega, rfl, by simp⟩
  case round =>
    obtain ⟨j, hj, rfl, rfl⟩ := hrel
    by_cases hlt : j < l.length
    · obtain ⟨ad, e, h0⟩ := Kd.at_int hrd.out j (by omega) (by omega)
      cases e
      simp only [Int.toNat_natCast] at h0
      have hst := Aside0.mk (isa_Reads.take_has l j hlt r b)
      generalize hx : (b && !(l.take j).contains r) = x at *
      have hx' := Aside0.mk hx; clear hx
      generalize hy : rd l j = y at *
      have hy' := Aside0.mk hy; clear hy
      cases x
      · go_wp2
        go_round
        case rel => exact ⟨j + 1, by omega, by go_num, by rw [hst.out]; rfl⟩
        case measure => simp [intOf]; omega
      · by_cases hyr : y = r
        · go_wp2
          go_round
          case rel => exact ⟨j + 1, by omega, by go_num, by rw [hst.out]; simp [hyr]⟩
          case measure => simp [intOf]; omega
        · go_wp2
          go_round
          case rel => exact ⟨j + 1, by omega, by go_num, by rw [hst.out]; simp [hyr]⟩
          case measure => simp [intOf]; omega
    · obtain rfl : j = l.length := by omega
      rw [List.take_length]
      have hlg := Aside0.mk hl
      cases hx : (b && !l.contains r)
      · have hp : Aside0 (isa_Reads.push l r b = l) := ⟨by unfold isa_Reads.push; rw [hx]; rfl⟩
        clear hx
        go_wp2
        go_end0
        rw [hp.out]
        exact ⟨_, rfl, hg.out, hR.out, hB.out⟩
      · have hp : Aside0 (isa_Reads.push l r b = l ++ [r]) := ⟨by unfold isa_Reads.push; rw [hx]; rfl⟩
        clear hx
        go_wp2_with (at_builtin; go_loud (refine Kd.R_append (Kd.int .i64) (w0 := w0) B rfl (.tmp 21) (.tmp 23) 35 3 (.int .i64 0) 8 rfl Try.underlying35 info3 rfl (by decide) (by omega) (.slice A l.length c) l r [.int .i64 r] (fun _ => True) (fun _ => False) rfl rfl ?aP (fun _ hk => hk.elim) ?aF ?aO ?aB ?aS ?aL ?_); (case aP => exact rfl); (case aB => exact hB.out); (case aF => exact (fun _ _ => trivial)); (case aO => exact hR.out); (case aS => exact hBw.out); (case aL => have := hlg.out; omega); intro v1 w1 ho hb hgr hat; obtain ⟨A1, c1, rfl⟩ := Kd.R_slice ho; simp only [List.length_append, List.length_cons, List.length_nil, Nat.zero_add] at ho; have n0 := Aside0.mk (blk_grown hg.out hgr (Kd.R_ne hR.out hg.out (by decide))); have n1 := Aside0.mk hb; have n2 := Aside0.mk ho; clear ho hb hgr hat; have hc1 : w1.cell? ⟨g, 0, none⟩ = some (.slice A l.length c) := (blk_cell n0.out 0).trans rfl; have hf1 := blk_frozen n0.out 0)
        go_end0
        rw [hp.out]
        exact ⟨_, rfl, blk_set n0.out 0 _, Kd.R_mono (Kd.R_far (Kd.R_types n2.out n0.out (by decide)) (fun _ hk => hk.2) _) (fun _ _ => trivial), n1.out.setCell hBg.out _⟩
set_option maxHeartbeats 8000000 in
set_option maxRecDepth 100000 in
theorem isa_Reads.calls (k : Nat) (a0_0 : Int) (a0_1 : Int) (a0_2 : Int) (a0_3 : Int) (a0_4 : Int) (r : List Int) (w : World) (h : isa_Reads.f k a0_0 a0_1 a0_2 a0_3 a0_4 = some r) :
    Calls Try.prog 14 #[.agg #[.int .i64 a0_0, .int .i64 a0_1, .int .i64 a0_2, .int .i64 a0_3, .int .i32 a0_4]] w fun e w' => ∃ v0_ : Value, e = .returned (v0_) ∧ Kd.R (Kd.int .i64) 3 w' w.heap.size (fun _ => True) v0_ r ∧ Below w.heap.size w w' := by
  obtain ⟨t, ht, h⟩ := Option.bind_eq_some_iff.mp h
  have ht' := Aside0.mk ht; clear ht
  by_cases hz : t = 0
  · subst hz
    rw [if_pos rfl] at h
    obtain ⟨p, hp, h⟩ := Option.bind_eq_some_iff.mp h
    have hp' := Aside0.mk hp; clear hp
    obtain rfl := Option.some.inj h
    clear h
    generalize hb0 : (Go.bits .and .i64 p 128 != 0) = b0
    generalize hb1 : (Go.bits .and .i64 p 2 != 0) = b1
    generalize hb2 : (Go.bits .and .i64 p 4 != 0) = b2
    go_enter Try.func14, Try.ntmps14
    go_wp2_with fail
    (with_reducible refine (isa_Check.calls k a0_0 a0_1 a0_2 a0_3 a0_4 0 _ ht'.out).mono ?_)
    rintro e w1 ⟨rfl, hb⟩
    have hX : Aside0 (w1.heap[w.heap.size]? = some (.cells #[.int .i64 a0_0, .int .i64 a0_1, .int .i64 a0_2, .int .i64 a0_3, .int .i32 a0_4] 23 (0, 0))) := ⟨(hb.block _ (by simp)).trans (blk_new w _)⟩
    have hB := Aside0.mk (below_step (below_alloc (Below.refl _ _) _) hb)
    clear hb
    have h0 : w1.cell? ⟨w.heap.size, 0, none⟩ = some (.int .i64 a0_0) := (blk_cell hX.out 0).trans rfl
    go_wp2_with fail
    (with_reducible refine (isa_parts.calls k a0_0 p _ hp'.out).mono ?_)
    rintro e w2 ⟨rfl, hd⟩
    have hb := hd.below
    have hX2 : Aside0 (w2.heap[w.heap.size]? = some (.cells #[.int .i64 a0_0, .int .i64 a0_1, .int .i64 a0_2, .int .i64 a0_3, .int .i32 a0_4] 23 (0, 0))) := ⟨(hb.block _ (blk_lt hX.out)).trans hX.out⟩
    have hB2 := Aside0.mk (below_step hB.out hb)
    clear hb hd h0
    have hc1 : w2.cell? ⟨w.heap.size, 1, none⟩ = some (.int .i64 a0_1) := (blk_cell hX2.out 1).trans rfl
    have hc2 : w2.cell? ⟨w.heap.size, 2, none⟩ = some (.int .i64 a0_2) := (blk_cell hX2.out 2).trans rfl
    have hc3 : w2.cell? ⟨w.heap.size, 3, none⟩ = some (.int .i64 a0_3) := (blk_cell hX2.out 3).trans rfl
    have hlt : w.heap.size < w2.heap.size := blk_lt hX2.out
    go_wp2_with fail
    (with_reducible refine (isa_Reads.lit w2.heap.size w2.heap.size [] (.slice none 0 0) a0_1 b0 w2 _ ⟨blk_new w2 _⟩ ⟨Kd.R_nil _ _ _ _ _⟩ ⟨below_alloc (Below.refl _ _) _⟩ ⟨Nat.le_refl _⟩ ⟨by simp⟩ (by simp)).mono ?_)
    rintro e w3 hq
    obtain ⟨v3, rfl, hg3, hR3, hB3⟩ := hq
    have hg3 := Aside0.mk hg3; have hR3 := Aside0.mk hR3
    have hd2 : w3.cell? ⟨w.heap.size, 2, none⟩ = some (.int .i64 a0_2) := (hB3.cell (p := ⟨w.heap.size, 2, none⟩) hlt).trans hc2
    have hd3 : w3.cell? ⟨w.heap.size, 3, none⟩ = some (.int .i64 a0_3) := (hB3.cell (p := ⟨w.heap.size, 3, none⟩) hlt).trans hc3
    have hB3 := Aside0.mk hB3
    go_wp2_with fail
    (with_reducible refine (isa_Reads.lit w2.heap.size w2.heap.size (isa_Reads.push [] a0_1 b0) v3 a0_2 b1 w2 _ hg3 hR3 hB3 ⟨Nat.le_refl _⟩ ⟨hB3.out.size⟩ ?hl).mono ?_)
    case hl => have := isa_Reads.push_len [] a0_1 b0; simp at this; omega
    rintro e w4 hq
    obtain ⟨v4, rfl, hg4, hR4, hB4⟩ := hq
    have hg4 := Aside0.mk hg4; have hR4 := Aside0.mk hR4
    have he3 : w4.cell? ⟨w.heap.size, 3, none⟩ = some (.int .i64 a0_3) := (hB4.cell (p := ⟨w.heap.size, 3, none⟩) hlt).trans hc3
    have hB4 := Aside0.mk hB4
    go_wp2_with fail
    (with_reducible refine (isa_Reads.lit w2.heap.size w2.heap.size (isa_Reads.push (isa_Reads.push [] a0_1 b0) a0_2 b1) v4 a0_3 b2 w2 _ hg4 hR4 hB4 ⟨Nat.le_refl _⟩ ⟨hB4.out.size⟩ ?hl).mono ?_)
    case hl => have := isa_Reads.push_len [] a0_1 b0; have := isa_Reads.push_len (isa_Reads.push [] a0_1 b0) a0_2 b1; simp at *; omega
    rintro e w5 hq
    obtain ⟨v5, rfl, hg5, hR5, hB5⟩ := hq
    have hR5 := Aside0.mk hR5
    have hB5 := Aside0.mk hB5
    obtain ⟨A5, n5, rfl⟩ := Kd.R_slice hR5.out
    have hf5 : w5.cell? ⟨w2.heap.size, 0, none⟩ = some _ := (blk_cell hg5 0).trans rfl
    clear hg5
    go_wp2
    go_ret
    exact ⟨_, rfl, Kd.R_lower hR5.out hB2.out.size, below_step hB2.out hB5.out⟩
  · rw [if_neg hz] at h
    obtain rfl := Option.some.inj h
    have hz0 : (t != 0) = true := bne_iff_ne.mpr hz
    clear h hz
    go_enter Try.func14, Try.ntmps14
    go_wp2_with fail
    (with_reducible refine (isa_Check.calls k a0_0 a0_1 a0_2 a0_3 a0_4 t _ ht'.out).mono ?_)
    rintro e w1 ⟨rfl, hb⟩
    have hB := Aside0.mk (below_step (below_alloc (Below.refl _ _) _) hb)
    clear hb
    go_wp2
    go_ret
    exact ⟨_, rfl, Kd.R_nil _ _ _ _ _, hB.out⟩

end Go.Proofs.Ytiogfhmmepepdaa.G
