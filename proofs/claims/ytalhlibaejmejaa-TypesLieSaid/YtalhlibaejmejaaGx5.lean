-- laid by given.sh
import Derived.Test.YtalhlibaejmejaaGx0
namespace Go.Proofs.Ytalhlibaejmejaa.G
open Go.RowKit Go.Proofs.YtalhlibaejmejaaW.PrintWords Go.Proofs.YtalhlibaejmejaaW.PrintLast Go.Proofs.YtalhlibaejmejaaW.PrintMore
attribute [local go_sem] max2_int min2_int max_two min_two max_three min_three max_four min_four   -- for this text's walks alone
set_option linter.unusedVariables false
set_option linter.unusedSimpArgs false

-- dev: YtalhlibaejmejaaPTypesLayoutsx0 Derived.Lib.Hide |
/-! ### types_Find: function 11 (by hand: it hands a closure, function 32, to slices.IndexFunc, function 31) -/
def types_Find.go : List (S35) → List UInt8 → Int → Int
  | [], _, _ => -1
  | x :: l, n, i => if x.f0.toList = n then i else types_Find.go l n (i + 1)
def types_Find.f (a0_0 : ByteArray) (l0_1 : List (S35)) (a0_2 : Int) (a1 : ByteArray) : Option (Int) := some (types_Find.go l0_1 a1.toList 0)
theorem types_Find.bcell {W w1 : World} (hb : Below W.heap.size W w1) : (∀ b o, b < W.heap.size → w1.cell? ⟨b, o, none⟩ = W.cell? ⟨b, o, none⟩) ∧ (∀ b o, b < W.heap.size → w1.frozen? ⟨b, o, none⟩ = W.frozen? ⟨b, o, none⟩) :=
  ⟨fun b o h => hb.cell (p := ⟨b, o, none⟩) h, fun b o h => hb.frozen (p := ⟨b, o, none⟩) h⟩
set_option maxHeartbeats 8000000 in
set_option maxRecDepth 100000 in
theorem types_Find.lit (x0 : ByteArray) (x1 x2 x3 x4 x5 : Int) (g : Nat) (a1 : ByteArray) (w : World) (hg : g < w.heap.size) (hc : w.cell? ⟨g, 0, none⟩ = some (.string a1)) :
    Calls Try.prog 32 #[.agg #[.string x0, .int .i64 x1, .int .i64 x2, .int .i64 x3, .int .i64 x4, .int .i64 x5], .pointer (some ⟨g, 0, none⟩)] w fun e w' => e = .returned (.bool (x0.toList == a1.toList)) ∧ Below w.heap.size w w' := by
  go_enter Try.func32, Try.ntmps32
  go_wp2
  go_ret
  exact ⟨rfl, (Below.refl _ _).alloc (Nat.le_refl _) _⟩
theorem types_Find.go_step (l : List (S35)) (n : List UInt8) (j : Nat) (hj : j < l.length) (i : Int) : types_Find.go (l.drop j) n i = if (rd_T35 l j).f0.toList = n then i else types_Find.go (l.drop (j + 1)) n (i + 1) := by
  rw [List.drop_eq_getElem_cons hj]
  have e : rd_T35 l j = l[j] := by unfold rd_T35; simp [List.getD_eq_getElem?_getD, List.getElem?_eq_getElem hj]
  rw [e]
  rfl
set_option maxHeartbeats 8000000 in
set_option maxRecDepth 100000 in
theorem types_Find.index (A : Option Addr) (c : Nat) (l : List (S35)) (g : Nat) (a1 : ByteArray) (w : World) (hg : g < w.heap.size) (hc : w.cell? ⟨g, 0, none⟩ = some (.string a1)) (hr : Aside0 (Kd.C k35 w A l.length l)) :
    Calls Try.prog 31 #[.slice A l.length c, .func (.func 32) #[] #[.pointer (some ⟨g, 0, none⟩)]] w fun e w' => e = .returned (.int .i64 (types_Find.go l a1.toList 0)) ∧ Below w.heap.size w w' := by
  have hl := Kd.C_max hr.out
  have hgw := Aside0.mk hg
  have hcw := Aside0.mk hc
  clear hc hg
  go_enter Try.func31, Try.ntmps31
  go_wp2
  go_loopw [8] (fun i wr => ∃ j : Nat, j ≤ l.length ∧ i = .int .i64 j ∧ Aside0 (types_Find.go l a1.toList 0 = types_Find.go (l.drop j) a1.toList j) ∧ Aside0 (Below w.heap.size w wr)) (fun i _ => l.length - (intOf i).toNat)
  case atStart => exact ⟨0, by omega, rfl, ⟨rfl⟩, ⟨Below.refl _ _⟩⟩
  case round =>
    obtain ⟨j, hj, rfl, he, hb⟩ := hrel
    by_cases hlt : j < l.length
    · obtain ⟨ad, e, h0, h1, h2, h3, h4, h5⟩ := at_T35 hr.out j (by omega) (by omega)
      cases e
      replace h0 := (hb.out.cell (World.block_lt_of_cell? w _ h0)).trans h0
      replace h1 := (hb.out.cell (World.block_lt_of_cell? w _ h1)).trans h1
      replace h2 := (hb.out.cell (World.block_lt_of_cell? w _ h2)).trans h2
      replace h3 := (hb.out.cell (World.block_lt_of_cell? w _ h3)).trans h3
      replace h4 := (hb.out.cell (World.block_lt_of_cell? w _ h4)).trans h4
      replace h5 := (hb.out.cell (World.block_lt_of_cell? w _ h5)).trans h5
      have hst := Aside0.mk (types_Find.go_step l a1.toList j hlt j)
      have hgr : Aside0 (g < wr.heap.size) := ⟨Nat.lt_of_lt_of_le hgw.out hb.out.size⟩
      have hcr : Aside0 (wr.cell? ⟨g, 0, none⟩ = some (.string a1)) := ⟨by rw [hb.out.cell (p := ⟨g, 0, none⟩) hgw.out]; exact hcw.out⟩
      simp only [Int.toNat_natCast] at h0 h1 h2 h3 h4 h5
      by_cases hn : (rd_T35 l j).f0.toList = a1.toList
      · have hB : Aside0 (((rd_T35 l j).f0.toList == a1.toList) = true) := ⟨beq_iff_eq.mpr hn⟩
        have hn' := Aside0.mk hn; clear hn
        go_wp2_with ((with_reducible refine (types_Find.lit _ _ _ _ _ _ g a1 _ hgr.out hcr.out).mono ?_); rintro e w' ⟨rfl, hb2⟩; rw [hB.out]; have hb3 := Aside0.mk (hb.out.trans (hb2.mono hb.out.size)); clear hb2)
        go_ret
        refine ⟨?_, hb3.out⟩
        rw [he.out, hst.out, if_pos hn'.out]
        rfl
      · have hB : Aside0 (((rd_T35 l j).f0.toList == a1.toList) = false) := ⟨beq_eq_false_iff_ne.mpr hn⟩
        have hn' := Aside0.mk hn; clear hn
        go_wp2_with ((with_reducible refine (types_Find.lit _ _ _ _ _ _ g a1 _ hgr.out hcr.out).mono ?_); rintro e w' ⟨rfl, hb2⟩; rw [hB.out]; have hb3 := Aside0.mk (hb.out.trans (hb2.mono hb.out.size)); clear hb2)
        go_roundw
        case rel => exact ⟨j + 1, by omega, by go_num, ⟨by rw [he.out, hst.out, if_neg hn'.out]; rfl⟩, hb3⟩
        case measure => simp [intOf]; omega
    · go_wp2
      go_ret
      refine ⟨?_, hb.out⟩
      rw [he.out, List.drop_of_length_le (by omega)]
      rfl
set_option maxHeartbeats 8000000 in
set_option maxRecDepth 100000 in
theorem types_Find.calls (a0_0 : ByteArray) (A0_1 : Option Addr) (c0_1 : Nat) (l0_1 : List (S35)) (a0_2 : Int) (a1 : ByteArray) (r : Int) (w : World) (hr0_1 : Kd.C k35 w A0_1 l0_1.length l0_1) (hc0_1 : l0_1.length ≤ c0_1) (h : types_Find.f a0_0 l0_1 a0_2 a1 = some r) :
    Calls Try.prog 11 #[.agg #[.string a0_0, .slice A0_1 l0_1.length c0_1, .int .i64 a0_2], .string a1] w fun e w' => e = .returned (.int .i64 r) ∧ Below w.heap.size w w' := by
  obtain rfl := Option.some.inj h
  have hR := Aside0.mk hr0_1
  clear h hr0_1
  go_enter Try.func11, Try.ntmps11
  go_wp2_with fail
  (with_reducible refine (types_Find.index A0_1 c0_1 l0_1 _ a1 _ ?h1 ?h2 ?h3).mono ?_)
  case h1 => simp
  case h2 => simp [go_sem]
  case h3 => exact ⟨Kd.C_alloc (Kd.C_alloc hR.out _) _⟩
  rintro e w' ⟨rfl, hb⟩
  go_wp2
  go_ret
  exact ⟨rfl, below_step (below_alloc (below_alloc (Below.refl _ _) _) _) hb⟩

end Go.Proofs.Ytalhlibaejmejaa.G
