/- The program's Check. -/
import Derived.Test.YtobikiffjanagaaIrL
import Derived.Test.YtobikiffjanagaaIrM
import Derived.MapKept
namespace Go.Proofs.Ytobikiffjanagaa.IrA
open Go.RowKit Go.Proofs.YtobikiffjanagaaW.PrintWords Go.Proofs.YtobikiffjanagaaW.PrintLast Go.Proofs.YtobikiffjanagaaW.PrintMore Go.Proofs.Ytobikiffjanagaa.GF
set_option linter.unusedVariables false
set_option linter.unusedSimpArgs false
variable {w : World} {A0 A2 A8 : Option Addr} {n0 c0 n2 c2 c8 : Nat} {glob main pa re sl : Int} {nm : ByteArray} {fs : List S33} {bs : List S58} {ds : List S51}

theorem checkFunc (hgd : Aside0 (∀ b ∈ bs, gd58 b)) (hn : fs.length = n0) (hf : Aside0 (Kd.C k33 w A0 n0 fs)) (hb : Aside0 (Kd.C k58 w A8 bs.length bs)) :
    Calls Try.prog 12 #[pv A0 n0 c0 glob A2 n2 c2 main, fv nm pa re sl A8 bs.length c8] w (RetB (.int .i64 (cer (checkB fs glob pa re sl bs))) w) := by
  cases h : sizesB pa re sl bs
  · have : checkB fs glob pa re sl bs = false := by unfold checkB; rw [h]; rfl
    rw [this]
    exact checkFunc_no h
  · exact checkFunc_yes h hgd hn hf hb
theorem func (hgd : Aside0 (∀ b ∈ bs, gd58 b)) (hn : fs.length = n0) (hf : Aside0 (Kd.C k33 w A0 n0 fs)) (hb : Aside0 (Kd.C k58 w A8 bs.length bs)) :
    Calls Try.prog 13 #[pv A0 n0 c0 glob A2 n2 c2 main, fv nm pa re sl A8 bs.length c8] w (RetB (.bool (checkB fs glob pa re sl bs)) w) := by
  cases h : sizesB pa re sl bs
  · have : checkB fs glob pa re sl bs = false := by unfold checkB; rw [h]; rfl
    rw [this]
    exact func_no h (Kd.C_max hb.out)
  · rw [← funcR_eq]
    exact func_yes h hgd hn hf hb

theorem nil_toList : (⟨#[]⟩ : ByteArray).toList = [] := by
  unfold ByteArray.toList ByteArray.toList.loop
  rfl
/-- Data: where the next one may begin; may they be. -/
def atOf (ds : List S51) : Nat → Int
  | 0 => 0
  | i + 1 => (ds.getD i z51).f0 + ((ds.getD i z51).f1.size : Int)
def datOk (glob a : Int) (d : S51) : Bool := decide (a ≤ d.f0) && (decide (0 < d.f1.size) && (decide (d.f0 ≤ glob) && decide ((d.f1.size : Int) ≤ glob - d.f0)))
def datTo (glob : Int) (ds : List S51) (j : Nat) : Bool := (List.range j).all fun i => datOk glob (atOf ds i) (ds.getD i z51)
theorem atOf_in {glob : Int} (h0 : 0 ≤ glob) (ds : List S51) : ∀ j, datTo glob ds j = true → 0 ≤ atOf ds j ∧ atOf ds j ≤ glob
  | 0, _ => ⟨Int.le_refl _, h0⟩
  | j + 1, h => by
    unfold datTo at h
    rw [range_all, Bool.and_eq_true] at h
    obtain ⟨h1, h2⟩ := h
    have ih := atOf_in h0 ds j h1
    simp only [atOf]
    generalize ds.getD j z51 = d at *
    unfold datOk at h2
    simp at h2
    omega
def funcsTo (fs : List S33) (glob : Int) (j : Nat) : Bool := (List.range j).all fun i => checkB fs glob (fs.getD i z33).f1 (fs.getD i z33).f2 (fs.getD i z33).f3 (fs.getD i z33).f4
def progB (fs : List S33) (glob main : Int) (ds : List S51) : Bool :=
  wi (fs.length : Int) 1 256 && (wi glob 0 65536 && (wi main 0 ((fs.length : Int) - 1) && (datTo glob ds ds.length && (funcsTo fs glob fs.length && (fs.getD main.toNat z33).f1 == 0))))
theorem T33_nat (l : List S33) (j : Nat) : rd_T33 l (j : Int) = l.getD j z33 := by simp [rd_T33]
theorem T51_nat (l : List S51) (j : Nat) : rd_T51 l (j : Int) = l.getD j z51 := by simp [rd_T51]
def gd33 (f : S33) : Prop := ∀ b ∈ f.f4, gd58 b
abbrev db (d : S51) : Obj := .cells #[.int .i64 d.f0, .string d.f1] 51 (0, 0)

set_option maxHeartbeats 16000000 in
set_option maxRecDepth 100000 in
theorem check_no (hmx : fs.length ≤ 9223372036854775807) (h : (wi (fs.length : Int) 1 256 && (wi glob 0 65536 && wi main 0 ((fs.length : Int) - 1))) = false) : Calls Try.prog 8 #[pv A0 fs.length c0 glob A2 n2 c2 main] w (RetB (.int .i64 1) w) := by
  have hB : Aside0 (Below w.heap.size w (w.alloc (pb A0 fs.length c0 glob A2 n2 c2 main))) := ⟨below_alloc (Below.refl _ _) _⟩
  have hwl : IntKind.i64.wrap ((fs.length : Int) - 1) = (fs.length : Int) - 1 := IntWalk.i64_in _ (by omega)
  have q1 := Aside0.mk (within (fs.length : Int) 1 256)
  have q2 := Aside0.mk (within glob 0 65536)
  have q3 := Aside0.mk (within main 0 ((fs.length : Int) - 1))
  cases h1 : wi (fs.length : Int) 1 256
  · rw [h1] at q1
    clear h h1
    go_enter Try.func8, Try.ntmps8
    go_wp2_with ((with_reducible refine (q1.out _).mono ?_); rintro e w' ⟨rfl, rfl⟩)
    go_ret
    exact ⟨rfl, hB.out⟩
  rw [h1] at q1 h
  clear h1
  cases h2 : wi glob 0 65536
  · rw [h2] at q2
    clear h h2
    go_enter Try.func8, Try.ntmps8
    go_wp2_with (first | ((with_reducible refine (q1.out _).mono ?_); rintro e w' ⟨rfl, rfl⟩) | ((with_reducible refine (q2.out _).mono ?_); rintro e w' ⟨rfl, rfl⟩))
    go_ret
    exact ⟨rfl, hB.out⟩
  rw [h2] at q2 h
  clear h2
  have h3 : wi main 0 ((fs.length : Int) - 1) = false := h
  rw [h3] at q3
  clear h h3
  go_enter Try.func8, Try.ntmps8
  go_wp2_with (first | ((with_reducible refine (q1.out _).mono ?_); rintro e w' ⟨rfl, rfl⟩) | ((with_reducible refine (q2.out _).mono ?_); rintro e w' ⟨rfl, rfl⟩) | ((with_reducible refine (q3.out _).mono ?_); rintro e w' ⟨rfl, rfl⟩))
  go_ret
  exact ⟨rfl, hB.out⟩

set_option maxHeartbeats 16000000 in
set_option maxRecDepth 100000 in
theorem check_yes (h : (wi (fs.length : Int) 1 256 && (wi glob 0 65536 && wi main 0 ((fs.length : Int) - 1))) = true) (hgd : Aside0 (∀ f ∈ fs, gd33 f)) (hf : Aside0 (Kd.C k33 w A0 fs.length fs)) (hd : Aside0 (Kd.C k51 w A2 ds.length ds)) :
    Calls Try.prog 8 #[pv A0 fs.length c0 glob A2 ds.length c2 main] w (RetB (.int .i64 (cer (progB fs glob main ds))) w) := by
  have hB1 : Aside0 (Below w.heap.size w (w.alloc (pb A0 fs.length c0 glob A2 ds.length c2 main))) := ⟨below_alloc (Below.refl _ _) _⟩
  have hP1 : Aside0 ((w.alloc (pb A0 fs.length c0 glob A2 ds.length c2 main)).heap[w.heap.size]? = some (pb A0 fs.length c0 glob A2 ds.length c2 main)) := ⟨blk_new w _⟩
  have hmx := Kd.C_max hf.out
  have hmxd := Kd.C_max hd.out
  have hwl : IntKind.i64.wrap ((fs.length : Int) - 1) = (fs.length : Int) - 1 := IntWalk.i64_in _ (by omega)
  simp only [Bool.and_eq_true] at h
  obtain ⟨h1, h2, h3⟩ := h
  have hfin : Aside0 (progB fs glob main ds = (datTo glob ds ds.length && (funcsTo fs glob fs.length && (fs.getD main.toNat z33).f1 == 0))) := ⟨by unfold progB; rw [h1, h2, h3]; rfl⟩
  have q1 := Aside0.mk (within (fs.length : Int) 1 256)
  have q2 := Aside0.mk (within glob 0 65536)
  have q3 := Aside0.mk (within main 0 ((fs.length : Int) - 1))
  rw [h1] at q1
  rw [h2] at q2
  rw [h3] at q3
  have hs : (0 ≤ glob ∧ glob ≤ 65536) ∧ 0 ≤ main ∧ main < fs.length := by unfold wi at h1 h2 h3; simp at h1 h2 h3; omega
  obtain ⟨⟨g0, g1⟩, m0, m1⟩ := hs
  clear h1 h2 h3
  go_enter Try.func8, Try.ntmps8
  go_wp2_with (first | ((with_reducible refine (q1.out _).mono ?_); rintro e w' ⟨rfl, rfl⟩) | ((with_reducible refine (q2.out _).mono ?_); rintro e w' ⟨rfl, rfl⟩) | ((with_reducible refine (q3.out _).mono ?_); rintro e w' ⟨rfl, rfl⟩))
  clear q1 q2 q3
  go_loopw [3, 32] (fun s i wr => ∃ j : Nat, j ≤ ds.length ∧ i = .int .i64 j ∧ s = .int .i64 (atOf ds j) ∧ Aside0 (wr.heap[w.heap.size]? = some (pb A0 fs.length c0 glob A2 ds.length c2 main)) ∧ Aside0 (Below w.heap.size w wr) ∧ Aside0 (datTo glob ds j = true)) (fun _ i _ => ds.length - (intOf i).toNat)
  case atStart => exact ⟨0, by omega, rfl, rfl, hP1, hB1, ⟨rfl⟩⟩
  case round =>
    obtain ⟨j, hj, rfl, rfl, hP2, hB2, hD2⟩ := hrel
    clear hP1 hB1
    have hat := atOf_in g0 ds j hD2.out
    by_cases hlt : j < ds.length
    · obtain ⟨ad, e, x0, x1⟩ := at_T51 hd.out (j : Int) (by omega) (by omega)
      cases e
      simp only [Int.toNat_natCast] at x0 x1
      replace x0 := (hB2.out.cell (World.block_lt_of_cell? w _ x0)).trans x0
      replace x1 := (hB2.out.cell (World.block_lt_of_cell? w _ x1)).trans x1
      have hst := range_all (fun i => datOk glob (atOf ds i) (ds.getD i z51)) j
      have hno := range_no (p := fun i => datOk glob (atOf ds i) (ds.getD i z51)) hlt
      have hat2 : atOf ds (j + 1) = (ds.getD j z51).f0 + ((ds.getD j z51).f1.size : Int) := rfl
      rw [T51_nat] at x0 x1
      try dsimp only at hst hno
      generalize ds.getD j z51 = d at *
      generalize atOf ds j = a at *
      replace hat2 := Aside0.mk hat2
      have hP3 := Aside0.mk (blk_alloc hP2.out (db d))
      have hB3 := Aside0.mk (below_step hB2.out (below_alloc (Below.refl wr.heap.size wr) (db d)))
      have p1 : (wr.alloc (db d)).cell? ⟨w.heap.size, 1, none⟩ = some (.int .i64 glob) := (blk_cell hP3.out 1).trans rfl
      obtain ⟨ha0, ha1⟩ := hat
      have hdat : datOk glob a d = (decide (a ≤ d.f0) && (decide (0 < d.f1.size) && (decide (d.f0 ≤ glob) && decide ((d.f1.size : Int) ≤ glob - d.f0)))) := rfl
      by_cases k1 : d.f0 < a
      · have hres : Aside0 (cer (progB fs glob main ds) = 1) := ⟨by rw [hfin.out, show datTo glob ds ds.length = false from hno (by rw [hdat]; simp; omega)]; rfl⟩
        clear hst hno hdat hfin hP2 hB2
        go_wp2
        go_ret
        rw [hres.out]
        exact ⟨rfl, hB3.out⟩
      · by_cases k2 : d.f1.size = 0
        · have hres : Aside0 (cer (progB fs glob main ds) = 1) := ⟨by rw [hfin.out, show datTo glob ds ds.length = false from hno (by rw [hdat]; simp [k2])]; rfl⟩
          have e0 : d.f1 = ⟨#[]⟩ := by
            obtain ⟨_, s⟩ := d
            obtain ⟨⟨l⟩⟩ := s
            cases l
            · rfl
            · simp [ByteArray.size] at k2
          have e1 : d.f1.toList.isEmpty = true := by rw [e0, nil_toList]; rfl
          have e2 : (!d.f1.toList.isEmpty) = false := by rw [e1]; rfl
          clear hst hno hdat hfin hP2 hB2 k2 e0
          go_wp2
          go_ret
          rw [hres.out]
          exact ⟨rfl, hB3.out⟩
        · have e1 : (d.f1 == (⟨#[]⟩ : ByteArray)) = false := by
            rw [← Bool.not_eq_true, MapKept.bytes_beq]
            intro e
            rw [e] at k2
            exact k2 rfl
          rw [beq_toListBytes] at e1
          have e2 : d.f1.toList.isEmpty = false := by
            rw [← Bool.not_eq_true, List.isEmpty_iff]
            intro e
            rw [e, nil_toList] at e1
            cases e1
          have e3 : (!d.f1.toList.isEmpty) = true := by rw [e2]; rfl
          have e4 : ¬ d.f1.toList = [] := by intro e; rw [e] at e2; cases e2
          clear e1
          by_cases k3 : glob < d.f0
          · have hres : Aside0 (cer (progB fs glob main ds) = 1) := ⟨by rw [hfin.out, show datTo glob ds ds.length = false from hno (by rw [hdat]; simp; omega)]; rfl⟩
            clear hst hno hdat hfin hP2 hB2 k2
            go_wp2
            go_ret
            rw [hres.out]
            exact ⟨rfl, hB3.out⟩
          · by_cases k4 : glob - d.f0 < (d.f1.size : Int)
            · have hres : Aside0 (cer (progB fs glob main ds) = 1) := ⟨by rw [hfin.out, show datTo glob ds ds.length = false from hno (by rw [hdat]; simp; omega)]; rfl⟩
              clear hst hno hdat hfin hP2 hB2 k2
              go_wp2
              go_ret
              rw [hres.out]
              exact ⟨rfl, hB3.out⟩
            · have hD3 : Aside0 (datTo glob ds (j + 1) = true) := ⟨by have h := hD2.out; unfold datTo at h ⊢; rw [hst, h, hdat]; simp; omega⟩
              clear hst hno hdat hfin hP2 hB2 k2
              go_wp2
              exact ⟨⟨j + 1, by omega, by go_num, by rw [hat2.out], hP3, hB3, hD3⟩, by simp [intOf]; omega⟩
    · obtain rfl : j = ds.length := by omega
      have hfin2 : Aside0 (progB fs glob main ds = (funcsTo fs glob fs.length && (fs.getD main.toNat z33).f1 == 0)) := ⟨by rw [hfin.out, hD2.out]; rfl⟩
      have p0 : wr.cell? ⟨w.heap.size, 0, none⟩ = some (.slice A0 fs.length c0) := (blk_cell hP2.out 0).trans rfl
      clear hfin hD2 hat
      go_wp2
      clear p0
      go_loopw [73] (fun i wr => ∃ j : Nat, j ≤ fs.length ∧ i = .int .i64 j ∧ Aside0 (wr.heap[w.heap.size]? = some (pb A0 fs.length c0 glob A2 ds.length c2 main)) ∧ Aside0 (Below w.heap.size w wr) ∧ Aside0 (funcsTo fs glob j = true)) (fun i _ => fs.length - (intOf i).toNat)
      case atStart => exact ⟨0, by omega, rfl, hP2, hB2, ⟨rfl⟩⟩
      case round =>
        obtain ⟨j, hj, rfl, hP3, hB3, hF3⟩ := hrel
        clear hP2 hB2
        have p0 : wr.cell? ⟨w.heap.size, 0, none⟩ = some (.slice A0 fs.length c0) := (blk_cell hP3.out 0).trans rfl
        have p3 : wr.cell? ⟨w.heap.size, 3, none⟩ = some (.int .i64 main) := (blk_cell hP3.out 3).trans rfl
        by_cases hlt : j < fs.length
        · obtain ⟨ad, A4, c4, e, x0, x1, x2, x3, x4, l4, g4⟩ := at_T33 hf.out (j : Int) (by omega) (by omega)
          cases e
          simp only [Int.toNat_natCast] at x0 x1 x2 x3 x4
          replace x0 := (hB3.out.cell (World.block_lt_of_cell? w _ x0)).trans x0
          replace x1 := (hB3.out.cell (World.block_lt_of_cell? w _ x1)).trans x1
          replace x2 := (hB3.out.cell (World.block_lt_of_cell? w _ x2)).trans x2
          replace x3 := (hB3.out.cell (World.block_lt_of_cell? w _ x3)).trans x3
          replace x4 := (hB3.out.cell (World.block_lt_of_cell? w _ x4)).trans x4
          have hst := range_all (fun i => checkB fs glob (fs.getD i z33).f1 (fs.getD i z33).f2 (fs.getD i z33).f3 (fs.getD i z33).f4) j
          have hno := range_no (p := fun i => checkB fs glob (fs.getD i z33).f1 (fs.getD i z33).f2 (fs.getD i z33).f3 (fs.getD i z33).f4) hlt
          have hgf := hgd.out (fs.getD j z33) (getD_mem fs z33 j hlt)
          rw [T33_nat] at x0 x1 x2 x3 x4 l4 g4
          try dsimp only at hst hno
          generalize fs.getD j z33 = f at *
          have bA := below_step hB3.out (below_alloc (Below.refl wr.heap.size wr) (fb f.f0 f.f1 f.f2 f.f3 A4 f.f4.length c4))
          have hP4 := Aside0.mk (blk_alloc hP3.out (fb f.f0 f.f1 f.f2 f.f3 A4 f.f4.length c4))
          have hcall := Aside0.mk (checkFunc (w := wr.alloc (fb f.f0 f.f1 f.f2 f.f3 A4 f.f4.length c4)) (A0 := some ad) (A2 := A2) (A8 := A4) (n0 := fs.length) (c0 := c0) (n2 := ds.length) (c2 := c2) (c8 := c4) (glob := glob) (main := main) (pa := f.f1) (re := f.f2) (sl := f.f3) (nm := f.f0) (fs := fs) (bs := f.f4) ⟨hgf⟩ rfl ⟨Kd.C_below hf.out bA⟩ ⟨Kd.C_below g4 bA⟩)
          have hB4 := Aside0.mk bA
          have p0' : (wr.alloc (fb f.f0 f.f1 f.f2 f.f3 A4 f.f4.length c4)).cell? ⟨w.heap.size, 0, none⟩ = some (.slice (some ad) fs.length c0) := (blk_cell hP4.out 0).trans rfl
          have p1' : (wr.alloc (fb f.f0 f.f1 f.f2 f.f3 A4 f.f4.length c4)).cell? ⟨w.heap.size, 1, none⟩ = some (.int .i64 glob) := (blk_cell hP4.out 1).trans rfl
          have p2' : (wr.alloc (fb f.f0 f.f1 f.f2 f.f3 A4 f.f4.length c4)).cell? ⟨w.heap.size, 2, none⟩ = some (.slice A2 ds.length c2) := (blk_cell hP4.out 2).trans rfl
          have p3' : (wr.alloc (fb f.f0 f.f1 f.f2 f.f3 A4 f.f4.length c4)).cell? ⟨w.heap.size, 3, none⟩ = some (.int .i64 main) := (blk_cell hP4.out 3).trans rfl
          clear g4 l4 bA p0 p3 hgf
          generalize hcv : checkB fs glob f.f1 f.f2 f.f3 f.f4 = cv at *
          cases cv
          · have hres : Aside0 (cer (progB fs glob main ds) = 1) := ⟨by rw [hfin2.out, show funcsTo fs glob fs.length = false from hno rfl]; rfl⟩
            have hcall : Aside0 (Calls Try.prog 12 #[pv (some ad) fs.length c0 glob A2 ds.length c2 main, fv f.f0 f.f1 f.f2 f.f3 A4 f.f4.length c4] (wr.alloc (fb f.f0 f.f1 f.f2 f.f3 A4 f.f4.length c4)) (RetB (.int .i64 1) (wr.alloc (fb f.f0 f.f1 f.f2 f.f3 A4 f.f4.length c4)))) := hcall
            clear hst hno hcv hP3 hB3
            go_wp2_with fail
            (with_reducible refine hcall.out.mono ?_)
            rintro e w7 ⟨rfl, b7⟩
            have hB7 := Aside0.mk (below_step hB4.out b7)
            clear b7
            go_wp2
            go_ret
            rw [hres.out]
            exact ⟨rfl, hB7.out⟩
          · have hcall : Aside0 (Calls Try.prog 12 #[pv (some ad) fs.length c0 glob A2 ds.length c2 main, fv f.f0 f.f1 f.f2 f.f3 A4 f.f4.length c4] (wr.alloc (fb f.f0 f.f1 f.f2 f.f3 A4 f.f4.length c4)) (RetB (.int .i64 0) (wr.alloc (fb f.f0 f.f1 f.f2 f.f3 A4 f.f4.length c4)))) := hcall
            have hF4 : Aside0 (funcsTo fs glob (j + 1) = true) := ⟨by have h := hF3.out; unfold funcsTo at h ⊢; rw [hst, h]; rfl⟩
            clear hst hno hcv hP3 hB3
            go_wp2_with fail
            (with_reducible refine hcall.out.mono ?_)
            rintro e w7 ⟨rfl, b7⟩
            have hB7 := Aside0.mk (below_step hB4.out b7)
            have hP7 := Aside0.mk ((b7.block _ (blk_lt hP4.out)).trans hP4.out)
            clear b7
            go_wp2
            exact ⟨⟨j + 1, by omega, by go_num, hP7, hB7, hF4⟩, by simp [intOf]; omega⟩
        · obtain rfl : j = fs.length := by omega
          obtain ⟨ad, A4, c4, e, x0, x1, x2, x3, x4, l4, g4⟩ := at_T33 hf.out main m0 m1
          cases e
          replace x1 := (hB3.out.cell (World.block_lt_of_cell? w _ x1)).trans x1
          have em : rd_T33 fs main = fs.getD main.toNat z33 := rfl
          rw [em] at x1
          have hfin3 : Aside0 (progB fs glob main ds = ((fs.getD main.toNat z33).f1 == 0)) := ⟨by rw [hfin2.out, hF3.out]; rfl⟩
          clear x0 x2 x3 x4 l4 g4 em hfin2
          generalize (fs.getD main.toNat z33).f1 = y at *
          cases hy : (y == 0)
          · have hy2 : (y != 0) = true := by rw [show (y != 0) = !(y == 0) from rfl, hy]; rfl
            have hres : Aside0 (cer (progB fs glob main ds) = 1) := ⟨by rw [hfin3.out, hy]; rfl⟩
            clear hy
            go_wp2
            go_ret
            rw [hres.out]
            exact ⟨rfl, hB3.out⟩
          · have hy2 : (y != 0) = false := by rw [show (y != 0) = !(y == 0) from rfl, hy]; rfl
            have hres : Aside0 (cer (progB fs glob main ds) = 0) := ⟨by rw [hfin3.out, hy]; rfl⟩
            clear hy
            go_wp2
            go_ret
            rw [hres.out]
            exact ⟨rfl, hB3.out⟩
theorem check (hgd : Aside0 (∀ f ∈ fs, gd33 f)) (hf : Aside0 (Kd.C k33 w A0 fs.length fs)) (hd : Aside0 (Kd.C k51 w A2 ds.length ds)) :
    Calls Try.prog 8 #[pv A0 fs.length c0 glob A2 ds.length c2 main] w (RetB (.int .i64 (cer (progB fs glob main ds))) w) := by
  cases h : (wi (fs.length : Int) 1 256 && (wi glob 0 65536 && wi main 0 ((fs.length : Int) - 1)))
  · have : progB fs glob main ds = false := by
      unfold progB
      revert h
      cases wi (fs.length : Int) 1 256 <;> cases wi glob 0 65536 <;> cases wi main 0 ((fs.length : Int) - 1) <;> simp
    rw [this]
    exact check_no (Kd.C_max hf.out) h
  · exact check_yes h hgd hf hd
end Go.Proofs.Ytobikiffjanagaa.IrA
