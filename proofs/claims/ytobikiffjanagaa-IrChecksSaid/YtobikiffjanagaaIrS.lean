/- The reference's Program; the law of programs. -/
import Derived.Test.YtobikiffjanagaaIrR
namespace Go.Proofs.Ytobikiffjanagaa.IrA
open Go.RowKit Go.Proofs.YtobikiffjanagaaW.PrintWords Go.Proofs.YtobikiffjanagaaW.PrintLast Go.Proofs.YtobikiffjanagaaW.PrintMore Go.Proofs.Ytobikiffjanagaa.GF
set_option linter.unusedVariables false
set_option linter.unusedSimpArgs false
variable {w : World} {A0 A2 A8 : Option Addr} {n0 c0 n2 c2 c8 : Nat} {glob main pa re sl : Int} {nm : ByteArray} {fs : List S33} {bs : List S58} {ds : List S51}

set_option maxHeartbeats 16000000 in
set_option maxRecDepth 100000 in
theorem program_no (hmx : fs.length ≤ 9223372036854775807) (h : (wi (fs.length : Int) 1 256 && (wi glob 0 65536 && wi main 0 ((fs.length : Int) - 1))) = false) : Calls Try.prog 10 #[pv A0 fs.length c0 glob A2 n2 c2 main] w (RetB (.bool false) w) := by
  have hB : Aside0 (Below w.heap.size w (w.alloc (pb A0 fs.length c0 glob A2 n2 c2 main))) := ⟨below_alloc (Below.refl _ _) _⟩
  by_cases k1 : fs.length < 1
  · have q : decide ((fs.length : Int) < 1) = true := decide_eq_true (by omega)
    clear h
    go_enter Try.func10, Try.ntmps10
    go_wp2
    go_ret
    exact ⟨rfl, hB.out⟩
  have q1 : decide ((fs.length : Int) < 1) = false := decide_eq_false (by omega)
  by_cases k2 : 256 < fs.length
  · have q : decide ((256 : Int) < (fs.length : Int)) = true := decide_eq_true (by omega)
    have q' : decide (256 < fs.length) = true := decide_eq_true (by omega)
    clear h
    go_enter Try.func10, Try.ntmps10
    go_wp2
    go_ret
    exact ⟨rfl, hB.out⟩
  have q2 : decide ((256 : Int) < (fs.length : Int)) = false := decide_eq_false (by omega)
  have q2' : decide (256 < fs.length) = false := decide_eq_false (by omega)
  by_cases k3 : glob < 0
  · clear h
    go_enter Try.func10, Try.ntmps10
    go_wp2
    go_ret
    exact ⟨rfl, hB.out⟩
  by_cases k4 : 65536 < glob
  · clear h
    go_enter Try.func10, Try.ntmps10
    go_wp2
    go_ret
    exact ⟨rfl, hB.out⟩
  by_cases k5 : main < 0
  · clear h
    go_enter Try.func10, Try.ntmps10
    go_wp2
    go_ret
    exact ⟨rfl, hB.out⟩
  have k6 : (fs.length : Int) ≤ main := by unfold wi at h; simp at h; omega
  clear h
  go_enter Try.func10, Try.ntmps10
  go_wp2
  go_ret
  exact ⟨rfl, hB.out⟩

set_option maxHeartbeats 16000000 in
set_option maxRecDepth 100000 in
theorem program_yes (h : (wi (fs.length : Int) 1 256 && (wi glob 0 65536 && wi main 0 ((fs.length : Int) - 1))) = true) (hgd : Aside0 (∀ f ∈ fs, gd33 f)) (hsz : Aside0 (∀ d ∈ ds, d.f1.size ≤ 140737488351232)) (hf : Aside0 (Kd.C k33 w A0 fs.length fs)) (hd : Aside0 (Kd.C k51 w A2 ds.length ds)) :
    Calls Try.prog 10 #[pv A0 fs.length c0 glob A2 ds.length c2 main] w (RetB (.bool (progB fs glob main ds)) w) := by
  have hB1 : Aside0 (Below w.heap.size w (w.alloc (pb A0 fs.length c0 glob A2 ds.length c2 main))) := ⟨below_alloc (Below.refl _ _) _⟩
  have hP1 : Aside0 ((w.alloc (pb A0 fs.length c0 glob A2 ds.length c2 main)).heap[w.heap.size]? = some (pb A0 fs.length c0 glob A2 ds.length c2 main)) := ⟨blk_new w _⟩
  have hmx := Kd.C_max hf.out
  have hmxd := Kd.C_max hd.out
  simp only [Bool.and_eq_true] at h
  obtain ⟨h1, h2, h3⟩ := h
  have hfin : Aside0 (progB fs glob main ds = (datTo glob ds ds.length && (funcsTo fs glob fs.length && (fs.getD main.toNat z33).f1 == 0))) := ⟨by unfold progB; rw [h1, h2, h3]; rfl⟩
  have hs : (0 ≤ glob ∧ glob ≤ 65536) ∧ (0 ≤ main ∧ main < fs.length) ∧ 1 ≤ fs.length ∧ fs.length ≤ 256 := by unfold wi at h1 h2 h3; simp at h1 h2 h3; omega
  obtain ⟨⟨g0, g1⟩, ⟨m0, m1⟩, n1, n2⟩ := hs
  have q1 : decide ((fs.length : Int) < 1) = false := decide_eq_false (by omega)
  have q2 : decide ((256 : Int) < (fs.length : Int)) = false := decide_eq_false (by omega)
  have q2' : decide (256 < fs.length) = false := decide_eq_false (by omega)
  clear h1 h2 h3
  go_enter Try.func10, Try.ntmps10
  go_wp2
  clear q1 q2 q2'
  go_loopw [3] (fun i wr => ∃ j : Nat, j ≤ fs.length ∧ i = .int .i64 j ∧ Aside0 (wr.heap[w.heap.size]? = some (pb A0 fs.length c0 glob A2 ds.length c2 main)) ∧ Aside0 (Below w.heap.size w wr) ∧ Aside0 (funcsTo fs glob j = true)) (fun i _ => fs.length - (intOf i).toNat)
  case atStart => exact ⟨0, by omega, rfl, hP1, hB1, ⟨rfl⟩⟩
  case round =>
    obtain ⟨j, hj, rfl, hP3, hB3, hF3⟩ := hrel
    clear hP1 hB1
    have p0 : wr.cell? ⟨w.heap.size, 0, none⟩ = some (.slice A0 fs.length c0) := (blk_cell hP3.out 0).trans rfl
    have p1 : wr.cell? ⟨w.heap.size, 1, none⟩ = some (.int .i64 glob) := (blk_cell hP3.out 1).trans rfl
    have p2 : wr.cell? ⟨w.heap.size, 2, none⟩ = some (.slice A2 ds.length c2) := (blk_cell hP3.out 2).trans rfl
    have p3 : wr.cell? ⟨w.heap.size, 3, none⟩ = some (.int .i64 main) := (blk_cell hP3.out 3).trans rfl
    by_cases hlt : j < fs.length
    · obtain ⟨ad, A4, c4, e, x0, x1, x2, x3, x4, l4, g4⟩ := at_T33 hf.out (j : Int) (by omega) (by omega)
      cases e
      simp only [Int.toNat_natCast] at x0 x1 x2 x3 x4
      replace x0 := (hB3.out.cell (World.block_lt_of_cell? w _ x0)).trans x0
      replace x1 := (hB3.out.cell (World.block_lt_of_cell? w _ x1)).trans x1
      replace x2 := (hB3.out.cell (World.block_lt_of_cell? w _ x2)).trans x2
      replace x3 := (hB3.out.cell (World.block_lt_of_cell? w _ x3)).trans x3
      replace x4 := (hB3.out.cell (World.block_lt_of_cell? w _ x4)).trans x4
      have hst := range_all (fun i => checkB fs glob (fs.getD i z33).f1 (fs.getD i z33).f2 (fs.getD i z33).f3 (fs.getD i z33).f4) j
      have hno := range_no (p := fun i => checkB fs glob (fs.getD i z33).f1 (fs.getD i z33).f2 (fs.getD i z33).f3 (fs.getD i z33).f4) hlt
      have hgf := hgd.out (fs.getD j z33) (getD_mem fs z33 j hlt)
      rw [T33_nat] at x0 x1 x2 x3 x4 l4 g4
      try dsimp only at hst hno
      generalize fs.getD j z33 = f at *
      have bA := below_step hB3.out (show Below wr.heap.size wr wr.drew from ⟨rfl, rfl, rfl, Nat.le_refl _, fun _ _ => rfl⟩)
      have hP4 : Aside0 (wr.drew.heap[w.heap.size]? = some (pb (some ad) fs.length c0 glob A2 ds.length c2 main)) := ⟨hP3.out⟩
      have hcall := Aside0.mk (func (w := wr.drew) (A0 := some ad) (A2 := A2) (A8 := A4) (n0 := fs.length) (c0 := c0) (n2 := ds.length) (c2 := c2) (c8 := c4) (glob := glob) (main := main) (pa := f.f1) (re := f.f2) (sl := f.f3) (nm := f.f0) (fs := fs) (bs := f.f4) ⟨hgf⟩ rfl ⟨Kd.C_below hf.out bA⟩ ⟨Kd.C_below g4 bA⟩)
      have hB4 := Aside0.mk bA
      clear g4 l4 bA hgf hB3 hP3
      generalize hcv : checkB fs glob f.f1 f.f2 f.f3 f.f4 = cv at *
      cases cv
      · have hres : Aside0 (progB fs glob main ds = false) := ⟨by rw [hfin.out, show funcsTo fs glob fs.length = false from hno rfl]; simp⟩
        clear hst hno hcv
        go_wp2
        go_still_tail 6, (by kernel_rfl)
        change wpList _ _ _ _ _ wr.drew
        go_wp2_with fail
        (with_reducible refine hcall.out.mono ?_)
        rintro e w7 ⟨rfl, b7⟩
        have hB7 := Aside0.mk (below_step hB4.out b7)
        clear b7
        go_wp2
        go_ret
        rw [hres.out]
        exact ⟨rfl, hB7.out⟩
      · have hF4 : Aside0 (funcsTo fs glob (j + 1) = true) := ⟨by have h := hF3.out; unfold funcsTo at h ⊢; rw [hst, h]; rfl⟩
        clear hst hno hcv
        go_wp2
        go_still_tail 6, (by kernel_rfl)
        change wpList _ _ _ _ _ wr.drew
        go_wp2_with fail
        (with_reducible refine hcall.out.mono ?_)
        rintro e w7 ⟨rfl, b7⟩
        have hB7 := Aside0.mk (below_step hB4.out b7)
        have hP7 := Aside0.mk ((b7.block _ (blk_lt hP4.out)).trans hP4.out)
        clear b7
        go_wp2
        exact ⟨⟨j + 1, by omega, by go_num, hP7, hB7, hF4⟩, by simp [intOf]; omega⟩
    · obtain rfl : j = fs.length := by omega
      have hfin2 : Aside0 (progB fs glob main ds = (datTo glob ds ds.length && (fs.getD main.toNat z33).f1 == 0)) := ⟨by rw [hfin.out, hF3.out]; rfl⟩
      clear hfin hF3
      have hat0 : atOf ds 0 = 0 := rfl
      go_wp2
      go_loopw [4, 5, 6] (fun s i _ wq => ∃ j m : Nat, j ≤ ds.length ∧ i = .int .i64 j ∧ s = .int .i64 (atOf ds j) ∧ wq = wr.drewN m ∧ Aside0 (datTo glob ds j = true)) (fun _ i _ _ => ds.length - (intOf i).toNat)
      case atStart => exact ⟨0, 0, by omega, rfl, rfl, rfl, ⟨rfl⟩⟩
      case round =>
        obtain ⟨j, m, hj, rfl, rfl, rfl, hD2⟩ := hrel
        have hdr := Aside0.mk (fun n => World.drewN_drewN wr m n)
        have hat := atOf_in g0 ds j hD2.out
        by_cases hlt : j < ds.length
        · obtain ⟨ad, e, x0, x1⟩ := at_T51 hd.out (j : Int) (by omega) (by omega)
          cases e
          simp only [Int.toNat_natCast] at x0 x1
          replace x0 := (hB3.out.cell (World.block_lt_of_cell? w _ x0)).trans x0
          replace x1 := (hB3.out.cell (World.block_lt_of_cell? w _ x1)).trans x1
          have hst := range_all (fun i => datOk glob (atOf ds i) (ds.getD i z51)) j
          have hno := range_no (p := fun i => datOk glob (atOf ds i) (ds.getD i z51)) hlt
          have hat2 : atOf ds (j + 1) = (ds.getD j z51).f0 + ((ds.getD j z51).f1.size : Int) := rfl
          have hsd := hsz.out (ds.getD j z51) (getD_mem ds z51 j hlt)
          rw [T51_nat] at x0 x1
          try dsimp only at hst hno
          generalize ds.getD j z51 = d at *
          generalize atOf ds j = a at *
          replace hat2 := Aside0.mk hat2
          obtain ⟨ha0, ha1⟩ := hat
          have hdat : datOk glob a d = (decide (a ≤ d.f0) && (decide (0 < d.f1.size) && (decide (d.f0 ≤ glob) && decide ((d.f1.size : Int) ≤ glob - d.f0)))) := rfl
          have p1' : (wr.drewN m).cell? ⟨w.heap.size, 1, none⟩ = some (.int .i64 glob) := p1
          have p2' : (wr.drewN m).cell? ⟨w.heap.size, 2, none⟩ = some (.slice (some ad) ds.length c2) := p2
          have x0' : (wr.drewN m).cell? (ad.add (j * 2)) = some (.int .i64 d.f0) := x0
          have x1' : (wr.drewN m).cell? ⟨(ad.add (j * 2)).block, (ad.add (j * 2)).off + 1, none⟩ = some (.string d.f1) := x1
          have hw1 : IntKind.i64.wrap (glob - (d.f1.size : Int)) = glob - (d.f1.size : Int) := IntWalk.i64_in _ (by omega)
          have qj0 : (0 : Int) ≤ (j : Int) := by omega
          have qj1 : (j : Int) < (ds.length : Int) := by omega
          clear p0 p1 p2 p3 x0 x1
          generalize wr.drewN m = w2 at *
          by_cases k1 : d.f0 < a
          · have hres : Aside0 (progB fs glob main ds = false) := ⟨by rw [hfin2.out, show datTo glob ds ds.length = false from hno (by rw [hdat]; simp; omega)]; rfl⟩
            have b1 : decide (d.f0 < a) = true := decide_eq_true k1
            clear hst hno hdat hat2
            go_wp2
            go_quiet (fail)
            go_wp2
            go_ret
            rw [hres.out, hdr.out]
            exact ⟨rfl, bdn hB3.out _⟩
          · have b1 : decide (d.f0 < a) = false := decide_eq_false k1
            by_cases k2 : d.f1.size = 0
            · have hres : Aside0 (progB fs glob main ds = false) := ⟨by rw [hfin2.out, show datTo glob ds ds.length = false from hno (by rw [hdat]; simp [k2])]; rfl⟩
              have b2 : ((d.f1.size : Int) == 0) = true := by simp [k2]
              clear hst hno hdat hat2 k2
              go_wp2
              go_quiet (fail)
              go_wp2
              go_ret
              rw [hres.out, hdr.out]
              exact ⟨rfl, bdn hB3.out _⟩
            · have b2 : ((d.f1.size : Int) == 0) = false := beq_eq_false_iff_ne.mpr (by omega)
              by_cases k3 : glob < (d.f1.size : Int)
              · have hres : Aside0 (progB fs glob main ds = false) := ⟨by rw [hfin2.out, show datTo glob ds ds.length = false from hno (by rw [hdat]; simp; omega)]; rfl⟩
                have b3 : decide (glob < (d.f1.size : Int)) = true := decide_eq_true k3
                clear hst hno hdat hat2 k2
                go_wp2
                go_quiet (fail)
                go_wp2
                go_ret
                rw [hres.out, hdr.out]
                exact ⟨rfl, bdn hB3.out _⟩
              · have b3 : decide (glob < (d.f1.size : Int)) = false := decide_eq_false k3
                by_cases k4 : glob - (d.f1.size : Int) < d.f0
                · have hres : Aside0 (progB fs glob main ds = false) := ⟨by rw [hfin2.out, show datTo glob ds ds.length = false from hno (by rw [hdat]; simp; omega)]; rfl⟩
                  have b4 : decide (glob - (d.f1.size : Int) < d.f0) = true := decide_eq_true k4
                  clear hst hno hdat hat2 k2
                  go_wp2
                  go_quiet (fail)
                  go_wp2
                  go_ret
                  rw [hres.out, hdr.out]
                  exact ⟨rfl, bdn hB3.out _⟩
                · have hD3 : Aside0 (datTo glob ds (j + 1) = true) := ⟨by have h := hD2.out; unfold datTo at h ⊢; rw [hst, h, hdat]; simp; omega⟩
                  have b4 : decide (glob - (d.f1.size : Int) < d.f0) = false := decide_eq_false k4
                  clear hst hno hdat k2
                  go_wp2
                  go_quiet (fail)
                  go_wp2
                  exact ⟨⟨j + 1, m + nq, by omega, by go_num, by rw [hat2.out], by rw [hdr.out], hD3⟩, by simp [intOf]; omega⟩
        · obtain rfl : j = ds.length := by omega
          obtain ⟨ad, A4, c4, e, x0, x1, x2, x3, x4, l4, g4⟩ := at_T33 hf.out main m0 m1
          cases e
          replace x1 := (hB3.out.cell (World.block_lt_of_cell? w _ x1)).trans x1
          have em : rd_T33 fs main = fs.getD main.toNat z33 := rfl
          rw [em] at x1
          have hfin3 : Aside0 (progB fs glob main ds = ((fs.getD main.toNat z33).f1 == 0)) := ⟨by rw [hfin2.out, hD2.out]; rfl⟩
          clear x0 x2 x3 x4 l4 g4 em hfin2
          generalize (fs.getD main.toNat z33).f1 = y at *
          have p0' : (wr.drewN m).cell? ⟨w.heap.size, 0, none⟩ = some (.slice (some ad) fs.length c0) := p0
          have p3' : (wr.drewN m).cell? ⟨w.heap.size, 3, none⟩ = some (.int .i64 main) := p3
          have p2' : (wr.drewN m).cell? ⟨w.heap.size, 2, none⟩ = some (.slice A2 ds.length c2) := p2
          have hBm := Aside0.mk (bdn hB3.out m)
          have x1' : (wr.drewN m).cell? ⟨(ad.add (main.toNat * 5)).block, (ad.add (main.toNat * 5)).off + 1, none⟩ = some (.int .i64 y) := x1
          clear p0 p1 p2 p3 x1 hdr hB3 hat
          generalize wr.drewN m = w2 at *
          go_wp2
          go_ret
          rw [hfin3.out]
          exact ⟨rfl, hBm.out⟩
theorem program (hgd : Aside0 (∀ f ∈ fs, gd33 f)) (hsz : Aside0 (∀ d ∈ ds, d.f1.size ≤ 140737488351232)) (hf : Aside0 (Kd.C k33 w A0 fs.length fs)) (hd : Aside0 (Kd.C k51 w A2 ds.length ds)) :
    Calls Try.prog 10 #[pv A0 fs.length c0 glob A2 ds.length c2 main] w (RetB (.bool (progB fs glob main ds)) w) := by
  cases h : (wi (fs.length : Int) 1 256 && (wi glob 0 65536 && wi main 0 ((fs.length : Int) - 1)))
  · have : progB fs glob main ds = false := by
      unfold progB
      revert h
      cases wi (fs.length : Int) 1 256 <;> cases wi glob 0 65536 <;> cases wi main 0 ((fs.length : Int) - 1) <;> simp
    rw [this]
    exact program_no (Kd.C_max hf.out) h
  · exact program_yes h hgd hsz hf hd

set_option maxHeartbeats 16000000 in
set_option maxRecDepth 100000 in
theorem checks_law (hgd : Aside0 (∀ f ∈ fs, gd33 f)) (hsz : Aside0 (∀ d ∈ ds, d.f1.size ≤ 140737488351232)) (hf : Aside0 (Kd.C k33 w A0 fs.length fs)) (hd : Aside0 (Kd.C k51 w A2 ds.length ds)) :
    Calls Try.prog 3 #[pv A0 fs.length c0 glob A2 ds.length c2 main] w (RetB (.bool true) w) := by
  have hB : Below w.heap.size w (w.alloc (pb A0 fs.length c0 glob A2 ds.length c2 main)) := below_alloc (Below.refl _ _) _
  have e0 := blk_new w (pb A0 fs.length c0 glob A2 ds.length c2 main)
  have h12 : Aside0 (∀ W, Below w.heap.size w W → Calls Try.prog 8 #[pv A0 fs.length c0 glob A2 ds.length c2 main] W (RetB (.int .i64 (cer (progB fs glob main ds))) W)) := ⟨fun W b => check hgd ⟨Kd.C_below hf.out b⟩ ⟨Kd.C_below hd.out b⟩⟩
  have h13 : Aside0 (∀ W, Below w.heap.size w W → Calls Try.prog 10 #[pv A0 fs.length c0 glob A2 ds.length c2 main] W (RetB (.bool (progB fs glob main ds)) W)) := ⟨fun W b => program hgd hsz ⟨Kd.C_below hf.out b⟩ ⟨Kd.C_below hd.out b⟩⟩
  have h9 := Aside0.mk (fun W => errno (progB fs glob main ds) W)
  generalize progB fs glob main ds = C at *
  generalize cer C = K at *
  go_enter Try.func3, Try.ntmps3
  go_wp2_with fail
  generalize w.alloc (pb A0 fs.length c0 glob A2 ds.length c2 main) = W0 at *
  have z0 : W0.cell? ⟨w.heap.size, 0, none⟩ = some (.slice A0 fs.length c0) := (blk_cell e0 0).trans rfl
  have z1 : W0.cell? ⟨w.heap.size, 1, none⟩ = some (.int .i64 glob) := (blk_cell e0 1).trans rfl
  have z2 : W0.cell? ⟨w.heap.size, 2, none⟩ = some (.slice A2 ds.length c2) := (blk_cell e0 2).trans rfl
  have z3 : W0.cell? ⟨w.heap.size, 3, none⟩ = some (.int .i64 main) := (blk_cell e0 3).trans rfl
  have s0 : w.heap.size < W0.heap.size := blk_lt e0
  clear e0
  go_region_held3 (fun w' => Below w.heap.size w w' ∧ w.heap.size < w'.heap.size ∧ w'.cell? ⟨w.heap.size, 0, none⟩ = some (.slice A0 fs.length c0) ∧ w'.cell? ⟨w.heap.size, 1, none⟩ = some (.int .i64 glob) ∧ w'.cell? ⟨w.heap.size, 2, none⟩ = some (.slice A2 ds.length c2) ∧ w'.cell? ⟨w.heap.size, 3, none⟩ = some (.int .i64 main))
    (first | exact ⟨below_drew hB, s0, z0, z1, z2, z3⟩ | (go_split_ands; exact ⟨below_step ‹_› ‹_›, Nat.lt_of_lt_of_le ‹w.heap.size < _› (Below.size ‹_›), by rw [Below.cell ‹_› ‹w.heap.size < _›]; assumption, by rw [Below.cell ‹_› ‹w.heap.size < _›]; assumption, by rw [Below.cell ‹_› ‹w.heap.size < _›]; assumption, by rw [Below.cell ‹_› ‹w.heap.size < _›]; assumption⟩))
    (first | (go_at_call 8; refine (h12.out _ (by first | exact below_drew hB | assumption | (go_split_ands; assumption))).mono ?_; rintro e w' ⟨rfl, hb⟩) | (go_at_call 10; refine (h13.out _ (by first | exact below_drew hB | assumption | (go_split_ands; assumption))).mono ?_; rintro e w' ⟨rfl, hb⟩) | (go_at_call 9; refine (h9.out _).mono ?_; rintro e w' ⟨rfl, hb⟩) | (go_at_call 11; refine (awake _).mono ?_; rintro e w' ⟨rfl, hb⟩))
  go_split_ands
  go_wp2
  go_ret
  exact ⟨rfl, by assumption⟩
end Go.Proofs.Ytobikiffjanagaa.IrA
