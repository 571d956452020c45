/- The solver: its walk (must). -/
import Derived.Test.YtfdhpogpeajifaaLaK
namespace Go.Proofs.Ytfdhpogpeajifaa.Lat
open Go.RowKit Go.Proofs.YtfdhpogpeajifaaW.PrintWords Go.Proofs.YtfdhpogpeajifaaW.PrintLast Go.Proofs.YtfdhpogpeajifaaW.PrintMore
set_option linter.unusedVariables false
set_option linter.unusedSimpArgs false
attribute [local go_sem] max2_int min2_int max_two min_two
def solveM.T7 : Bool × List (List Nat × List Nat) := (true, [([], []), ([], []), ([1], [1]), ([], []), ([], []), ([4], [4]), ([], []), ([], []), ([7], [7]), ([6, 8], [6, 8]), ([9], [9]), ([], []), ([11], [11]), ([12], [12]), ([10, 13], [10, 13]), ([], []), ([], []), ([16], [16]), ([15, 17], [15, 17]), ([18], [18]), ([], []), ([20], [20]), ([21], [21]), ([19, 22, 14], [19, 22]), ([0, 2, 0, 1, 2, 6, 7, 8, 9, 10, 11, 12, 13, 14, 19, 23], [0, 2]), ([24, 14, 23, 0, 1, 2, 6, 7, 8, 9, 10, 11, 12, 13, 14, 19, 23], [14, 24]), ([3, 5, 0, 1, 2, 3, 4, 5, 6, 7, 8, 9, 10, 11, 12, 13, 14, 15, 16, 17, 18, 19, 20, 21, 22, 23, 24, 25], [3, 5]), ([26, 23, 25, 0, 1, 2, 3, 4, 5, 6, 7, 8, 9, 10, 11, 12, 13, 14, 15, 16, 17, 18, 19, 20, 21, 22, 23, 24, 25], [23, 26])])
def solveM.B7 : List Nat := [0, 0, 2, 0, 0, 16, 0, 0, 128, 448, 960, 0, 2048, 6144, 16320, 0, 0, 65536, 229376, 491520, 0, 1048576, 3145728, 8388544, 16777159, 33554375, 67108863, 134217727]
theorem solveM.tab7 : rtab .any (opsOf Try.f9 7) = solveM.T7 := by kernel_rfl
theorem solveM.bits7 : waitsOk solveM.T7.2 solveM.B7 = true := by kernel_rfl
/-- What the solver tells. -/
def RetSmust (P : Sys) (m : Nat) (most : Int) (w : World) (e : Ending) (w' : World) : Prop :=
  (∃ gI gO I O, e = .returned (.tuple #[.slice (some ⟨gI, 0, none⟩) P.N P.N, .slice (some ⟨gO, 0, none⟩) P.N P.N, .int .i64 0]) ∧ w'.heap[gI]? = some (.cells (us I) 29 (0, 0)) ∧ w'.heap[gO]? = some (.cells (us O) 29 (0, 0)) ∧ P.Lfp I O ∧ Below w.heap.size w w') ∨
    (most < P.N + 64 * m ∧ e = .returned (.tuple #[.slice none 0 0, .slice none 0 0, .int .i64 2]) ∧ Below w.heap.size w w')
theorem iv_not (a : V) : Go.bits .xor .u64 18446744073709551615 (iv a) = iv (~~~a) := by
  have h : (~~~a) = BitVec.allOnes 64 ^^^ a := by rw [BitVec.allOnes_xor]
  have h2 : iv (BitVec.allOnes 64 ^^^ a) = ((18446744073709551615 ^^^ a.toNat : Nat) : Int) := by unfold iv; rw [BitVec.toNat_xor]; rfl
  rw [h, h2]
  exact u64_xor_nat 18446744073709551615 a.toNat (by omega) (by have := a.isLt; omega)
set_option maxHeartbeats 4000000 in
set_option maxRecDepth 100000 in
theorem startNM {w : World} {bp : Nat} {l : List Nd} (h : Aside0 (Cap w bp l)) (n : Nat) (hn : n < l.length) :
    Calls Try.prog 15 #[.int .i64 (n : Int), PP bp] w fun e w' => e = .returned (uv (~~~(l.getD n z0).start)) ∧ w = w' := by
  obtain ⟨A, c, h1, h2⟩ := h.out.m
  have c0 : w.cell? ⟨bp, 0, none⟩ = some (.slice A l.length c) := (blk_cell h1 0).trans rfl
  obtain ⟨ad, rfl, a0, a1, a2⟩ := at_N h2 n hn
  generalize l.getD n z0 = x at *
  have hx := Aside0.mk (iv_not x.start)
  clear h1 h2 a0 a1
  go_enter Try.func15, Try.ntmps15
  go_wp2
  go_ret
  exact ⟨ret_u hx.out, rfl⟩
set_option maxHeartbeats 64000000 in
set_option maxRecDepth 100000 in
theorem solve_must {w : World} (bt : V) (l : List Nd) (A : Option Addr) (es : List (Int × Int)) (c : Nat) (hE : Aside0 (kE.C w A es.length es)) (bp : Nat) (hC : Aside0 (Cap w bp l)) (bq : Nat) (hCM : Aside0 (Cap w bq l)) (most : Int) (hN : l.length ≤ 64) (hes : es.length ≤ 256) (hok : allOk l.length es = true) (hm : 1 ≤ most) (hbt : Aside0 (bt = (must l (nE es)).bot)) :
    Calls Try.prog 9 #[pv l.length A es.length c (bt) (fv 15 #[PP bq]) (fv 14 #[]) (fv 26 #[]) (fv 27 #[PP bp]), .int .i64 most] w (RetSmust (must l (nE es)) es.length most w) := by
  have hmay : ∀ W, Below w.heap.size w W → Aside0 (Calls Try.prog 21 #[pv l.length A es.length c (bt) (fv 15 #[PP bq]) (fv 14 #[]) (fv 26 #[]) (fv 27 #[PP bp])] W (RetB (.bool true) W)) := fun W b => ⟨by have := may_ (w := W) l.length (by omega) A es c ⟨Kd.C_below hE.out b⟩ (bt) 15 14 26 27 #[PP bq] #[] #[] #[PP bp]; rw [hok] at this; exact this⟩
  have hmk54 := mk54 l.length (by omega)
  have hmk25 := mk25 l.length (by omega)
  have hmk56 := mk56 l.length (by omega)
  have hmk55 := mk55 l.length (by omega)
  replace hok := Aside0.mk hok
  have hm1 : decide (most < 1) = false := decide_eq_false (by omega)
  have hX := Aside0.mk (blk_new w (pb l.length A es.length c (bt) (fv 15 #[PP bq]) (fv 14 #[]) (fv 26 #[]) (fv 27 #[PP bp])))
  have hB : Aside0 (Below w.heap.size w (w.alloc (pb l.length A es.length c (bt) (fv 15 #[PP bq]) (fv 14 #[]) (fv 26 #[]) (fv 27 #[PP bp])))) := ⟨below_alloc (Below.refl _ _) _⟩
  go_enter Try.func9, Try.ntmps9
  go_upto_region 1 with (fail)
  generalize w.alloc (pb l.length A es.length c (bt) (fv 15 #[PP bq]) (fv 14 #[]) (fv 26 #[]) (fv 27 #[PP bp])) = W at *

  have p0 := (blk_cell hX.out 0).trans (show _ = some (.int .i64 (l.length : Int)) from rfl)
  have p1 := (blk_cell hX.out 1).trans (show _ = some (.slice A es.length c) from rfl)
  have p2 := (blk_cell hX.out 2).trans (show _ = some (uv (bt)) from rfl)
  have p3 := (blk_cell hX.out 3).trans (show _ = some (fv 15 #[PP bq]) from rfl)
  have p4 := (blk_cell hX.out 4).trans (show _ = some (fv 14 #[]) from rfl)
  have p5 := (blk_cell hX.out 5).trans (show _ = some (fv 26 #[]) from rfl)
  have p6 := (blk_cell hX.out 6).trans (show _ = some (fv 27 #[PP bp]) from rfl)
  go_upto_region 3 with (go_at_call 21; (with_reducible refine (hmay _ hB.out).out.mono ?_); rintro e w1 ⟨rfl, hb1⟩; replace hb1 := Aside0.mk hb1)
  have hX1 := Aside0.mk (blk_below hX.out hb1.out)
  have hB1 := Aside0.mk (below_step hB.out hb1.out)
  clear p0 p1 p2 p3 p4 p5 p6 hmay hX hB hb1
  go_cut [7, 8] (fun u7 u8 wx => ∃ gF gT : Nat, u7 = .slice (some ⟨gF, 0, none⟩) l.length l.length ∧ u8 = .slice (some ⟨gT, 0, none⟩) l.length l.length ∧ Aside0 (Tb w wx gF gT l.length (rowsF [] l.length) (rowsT [] l.length) (pb l.length A es.length c (bt) (fv 15 #[PP bq]) (fv 14 #[]) (fv 26 #[]) (fv 27 #[PP bp]))))
  case first =>
    refine start_ (n := 8) (S := fun w' => w'.cell? ⟨w.heap.size, 0, none⟩ = some (.int .i64 (l.length : Int))) (ds := []) #[false, false, false, false, false, false, false, false] (by kernel_rfl) rfl rfl ((blk_cell hX1.out 0).trans rfl) (fun hHeld => ?_)
    replace hX1 : Aside0 (w1.drew.heap[w.heap.size]? = _) := ⟨hX1.out⟩
    replace hB1 : Aside0 (Below w.heap.size w w1.drew) := ⟨below_drew hB1.out⟩
    generalize w1.drew = w2 at *
    refine pure_ (i := 0) (N := some 30) (v := ?_) (a' := ?_) #[true, false, false, false, false, false, false, false] rfl rfl (by kernel_rfl) (fun _ _ _ h => h) (Or.inl ⟨by rfl, ?_⟩) ?_ ?_
    rotate_left
    · intro w'
      go_simp
      try with_reducible rfl
    rotate_left
    · simp only [Act.put, List.setIfInBounds_toArray, List.set_cons_zero, List.set_cons_succ]
      rfl
    refine pure_ (i := 3) (N := some 33) (v := ?_) (a' := ?_) #[true, false, false, true, false, false, false, false] rfl rfl (by kernel_rfl) (fun _ _ _ h => h) (Or.inl ⟨by rfl, ?_⟩) ?_ ?_
    rotate_left
    · intro w'
      go_simp
      try with_reducible rfl
    rotate_left
    · simp only [Act.put, List.setIfInBounds_toArray, List.set_cons_zero, List.set_cons_succ]
      rfl
    refine take_ (i := 1) (N := some 31) (v := ?_) (a' := ?_) #[true, true, false, true, false, false, false, false] rfl rfl (by kernel_rfl) (fun _ _ _ h => h) (Or.inl ⟨by rfl, ?_⟩) hHeld ?_ ?_
    rotate_left
    · intro w' s0
      go_simp
      try with_reducible rfl
    rotate_left
    · simp only [Act.put, List.setIfInBounds_toArray, List.set_cons_zero, List.set_cons_succ]
      rfl
    refine take_ (i := 4) (N := some 34) (v := ?_) (a' := ?_) #[true, true, false, true, true, false, false, false] rfl rfl (by kernel_rfl) (fun _ _ _ h => h) (Or.inl ⟨by rfl, ?_⟩) hHeld ?_ ?_
    rotate_left
    · intro w' s0
      go_simp
      try with_reducible rfl
    rotate_left
    · simp only [Act.put, List.setIfInBounds_toArray, List.set_cons_zero, List.set_cons_succ]
      rfl
    refine two_ (i := 2) (j := 5) (Ni := some 32) (Nj := some 35) #[true, true, true, true, true, false, false, false] #[true, true, false, true, true, true, false, false] rfl rfl rfl rfl (by kernel_rfl) (by decide) (by decide) (fun K hK => ?_) (fun K hK => ?_)
    · refine value_ (w1 := w2.alloc (nilo l.length)) (v := .slice (some ⟨w2.heap.size, 0, none⟩) l.length l.length) (by rfl) rfl (by go_simp) ?_
      refine hK.out _ _ (by first | exact (blk_cell (blk_alloc hX1.out _) 0).trans rfl) (fun hHeld => ?_)
      clear hK K
      refine norm_ (a' := ?_) ?_ ?_
      rotate_left
      · simp only [Act.put, List.setIfInBounds_toArray, List.set_cons_zero, List.set_cons_succ]
        rfl
      refine pure_ (i := 6) (N := some 7) (v := ?_) (a' := ?_) #[true, true, true, true, true, false, true, false] rfl rfl (by kernel_rfl) (fun _ _ _ h => h) (Or.inl ⟨by rfl, ?_⟩) ?_ ?_
      rotate_left
      · intro w'
        go_simp
        try with_reducible rfl
      rotate_left
      · simp only [Act.put, List.setIfInBounds_toArray, List.set_cons_zero, List.set_cons_succ]
        rfl
      refine one_ (i := 5) (N := some 35) #[true, true, true, true, true, true, true, false] rfl rfl (by kernel_rfl) (by decide) (fun K hK => ?_)
      refine value_ (w1 := (w2.alloc (nilo l.length)).alloc (nilo l.length)) (v := .slice (some ⟨w2.heap.size + 1, 0, none⟩) l.length l.length) (by rfl) rfl (by go_simp) ?_
      refine hK.out _ _ (by first | exact (blk_cell (blk_alloc (blk_alloc hX1.out _) _) 0).trans rfl) (fun hHeld => ?_)
      clear hK K
      refine norm_ (a' := ?_) ?_ ?_
      rotate_left
      · simp only [Act.put, List.setIfInBounds_toArray, List.set_cons_zero, List.set_cons_succ]
        rfl
      refine pure_ (i := 7) (N := some 8) (v := ?_) (a' := ?_) #[true, true, true, true, true, true, true, true] rfl rfl (by kernel_rfl) (fun _ _ _ h => h) (Or.inl ⟨by rfl, ?_⟩) ?_ ?_
      rotate_left
      · intro w'
        go_simp
        try with_reducible rfl
      rotate_left
      · simp only [Act.put, List.setIfInBounds_toArray, List.set_cons_zero, List.set_cons_succ]
        rfl
      refine done_ (by kernel_rfl) ?_
      go_wp2_with fail
      go_meet
      exact ⟨_, _, rfl, rfl, ⟨Tb.begin hB1.out hX1.out⟩⟩
    · refine value_ (w1 := w2.alloc (nilo l.length)) (v := .slice (some ⟨w2.heap.size, 0, none⟩) l.length l.length) (by rfl) rfl (by go_simp) ?_
      refine hK.out _ _ (by first | exact (blk_cell (blk_alloc hX1.out _) 0).trans rfl) (fun hHeld => ?_)
      clear hK K
      refine norm_ (a' := ?_) ?_ ?_
      rotate_left
      · simp only [Act.put, List.setIfInBounds_toArray, List.set_cons_zero, List.set_cons_succ]
        rfl
      refine one_ (i := 2) (N := some 32) #[true, true, true, true, true, true, false, false] rfl rfl (by kernel_rfl) (by decide) (fun K hK => ?_)
      refine value_ (w1 := (w2.alloc (nilo l.length)).alloc (nilo l.length)) (v := .slice (some ⟨w2.heap.size + 1, 0, none⟩) l.length l.length) (by rfl) rfl (by go_simp) ?_
      refine hK.out _ _ (by first | exact (blk_cell (blk_alloc (blk_alloc hX1.out _) _) 0).trans rfl) (fun hHeld => ?_)
      clear hK K
      refine norm_ (a' := ?_) ?_ ?_
      rotate_left
      · simp only [Act.put, List.setIfInBounds_toArray, List.set_cons_zero, List.set_cons_succ]
        rfl
      refine pure_ (i := 6) (N := some 7) (v := ?_) (a' := ?_) #[true, true, true, true, true, true, true, false] rfl rfl (by kernel_rfl) (fun _ _ _ h => h) (Or.inl ⟨by rfl, ?_⟩) ?_ ?_
      rotate_left
      · intro w'
        go_simp
        try with_reducible rfl
      rotate_left
      · simp only [Act.put, List.setIfInBounds_toArray, List.set_cons_zero, List.set_cons_succ]
        rfl
      refine pure_ (i := 7) (N := some 8) (v := ?_) (a' := ?_) #[true, true, true, true, true, true, true, true] rfl rfl (by kernel_rfl) (fun _ _ _ h => h) (Or.inl ⟨by rfl, ?_⟩) ?_ ?_
      rotate_left
      · intro w'
        go_simp
        try with_reducible rfl
      rotate_left
      · simp only [Act.put, List.setIfInBounds_toArray, List.set_cons_zero, List.set_cons_succ]
        rfl
      refine done_ (by kernel_rfl) ?_
      go_wp2_with fail
      go_meet
      exact ⟨_, _, rfl, rfl, ⟨(Tb.begin hB1.out hX1.out).swap⟩⟩
  case rest =>
  obtain ⟨gF, gT, rfl, rfl, hT0⟩ := hcut
  clear hX1 hB1
  have p1 : wc.cell? ⟨w.heap.size, 1, none⟩ = some (.slice A es.length c) := (blk_cell hT0.out.pb 1).trans rfl
  go_wp2_with fail
  clear p1
  go_loopw [39] (fun i wr => ∃ k : Nat, k ≤ es.length ∧ i = .int .i64 k ∧ Aside0 (Tb w wr gF gT l.length (rowsF (nE (es.take k)) l.length) (rowsT (nE (es.take k)) l.length) (pb l.length A es.length c (bt) (fv 15 #[PP bq]) (fv 14 #[]) (fv 26 #[]) (fv 27 #[PP bp])))) (fun i _ => es.length - (intOf i).toNat)
  case atStart => exact ⟨0, by omega, rfl, hT0⟩
  case round =>
    obtain ⟨k, hk, rfl, hT1⟩ := hrel
    clear hT0
    by_cases hlt : k < es.length
    · skip
      obtain ⟨ad, rfl, a0, a1⟩ := at_E hE.out k hlt
      replace a0 := (hT1.out.bel.cell (World.block_lt_of_cell? w _ a0)).trans a0
      replace a1 := (hT1.out.bel.cell (World.block_lt_of_cell? w _ a1)).trans a1
      have hx := eOk_at hok.out hlt
      have hsn := fun x h => Aside0.mk (nE_take es k hlt x h)
      obtain ⟨x, hxe⟩ : ∃ x, es.getD k (0, 0) = x := ⟨_, rfl⟩
      rw [hxe] at a0 a1 hx
      replace hsn := hsn x hxe
      clear hxe
      obtain ⟨x1, x2⟩ := x
      obtain ⟨ha0, ha1, hb0, hb1⟩ := hx
      simp only at a0 a1 ha0 ha1 hb0 hb1 hsn
      obtain ⟨sa, rfl⟩ := Int.eq_ofNat_of_zero_le ha0
      obtain ⟨sb, rfl⟩ := Int.eq_ofNat_of_zero_le hb0
      simp only [Int.toNat_natCast] at hsn
      have hlen := nE_len es k hk
      have hlF : Aside0 ((lat (rowsF (nE (es.take k)) l.length) sb).length ≤ 256) := ⟨by rw [rowsF_at _ (by omega), ints_len]; exact Nat.le_trans (preds_len _ _) (by omega)⟩
      have hlT : Aside0 ((lat (rowsT (nE (es.take k)) l.length) sa).length ≤ 256) := ⟨by rw [rowsT_at _ (by omega), ints_len]; exact Nat.le_trans (succs_len _ _) (by omega)⟩
      have hFs := Aside0.mk (rowsF_snoc (nE (es.take k)) (N := l.length) sa sb (by omega))
      have hTs := Aside0.mk (rowsT_snoc (nE (es.take k)) (N := l.length) sa sb (by omega))
      rw [← hsn.out] at hFs hTs
      generalize rowsF (nE (es.take k)) l.length = F at *
      generalize rowsT (nE (es.take k)) l.length = T at *
      clear hsn hlen
      have PE := Aside0.mk (blk_new wr (.cells #[.int .i64 (sa : Int), .int .i64 (sb : Int)] 44))
      have hT2 := Aside0.mk (hT1.out.below (below_alloc (Below.refl _ _) (.cells #[.int .i64 (sa : Int), .int .i64 (sb : Int)] 44)))
      go_upto_region 7 with (fail)
      generalize wr.alloc (.cells #[.int .i64 (sa : Int), .int .i64 (sb : Int)] 44) = Wa at *
      generalize wr.heap.size = pe at *
      clear a0 a1 hT1
      obtain ⟨VF, VT, hVF, hVT, GF0, GT0, RW0⟩ := hT2.out.m
      replace GF0 : Aside0 (Wa.drew.heap[gF]? = _) := ⟨GF0⟩
      replace GT0 : Aside0 (Wa.drew.heap[gT]? = _) := ⟨GT0⟩
      replace RW0 : Aside0 (Rws Wa.drew w.heap.size (VF ++ VT) (F ++ T)) := ⟨RW0.below (below_drew (Below.refl _ _))⟩
      replace PE : Aside0 (Wa.drew.heap[pe]? = _) := ⟨PE.out⟩
      have BL : Aside0 (Below w.heap.size w Wa.drew) := ⟨below_drew hT2.out.bel⟩
      have PB : Aside0 (Wa.drew.heap[w.heap.size]? = some (pb l.length (some ad) es.length c (bt) (fv 15 #[PP bq]) (fv 14 #[]) (fv 26 #[]) (fv 27 #[PP bp]))) := ⟨hT2.out.pb⟩
      have hgs := Aside0.mk (And.intro hT2.out.hF (And.intro hT2.out.hT (And.intro hT2.out.ne (And.intro hT2.out.lF hT2.out.lT))))
      have H := Aside0.mk (Tw.mk' (F := F) (T := T) hVF hVT hT2.out.lF hT2.out.lT (by omega : sa < l.length) (by omega : sb < l.length))
      have hbV : sb < VF.length := by omega
      have haV : sa < VT.length := by omega
      have hap1 := add_plain gF sb
      have hap2 := add_plain gT sa
      clear hVF hVT hT2
      refine start_ (n := 28) (S := fun w' => True) (ds := []) #[false, false, false, false, false, false, false, false, false, false, false, false, false, false, false, false, false, false, false, false, false, false, false, false, false, false, false, false] (by kernel_rfl) rfl rfl trivial (fun hHeld => ?_)
      refine with_tabW solveM.tab7 solveM.bits7 (fun HT_ HW_ => ?_)
      generalize Wa.drew = Wb at *
      have FR : Aside0 (Kept Wb Wb (fun k => (vat VF sb).ownBlock = some k ∨ (vat VT sa).ownBlock = some k ∨ k = gF ∨ k = gT)) := ⟨Kept.refl _ _⟩
      have hlo1 : Aside0 (∀ k, (vat VF sb).ownBlock = some k → k < Wb.heap.size) := ⟨fun k hk => Kd.R_lt (H.out.rowF RW0.out) k hk⟩
      have hlo2 : Aside0 (∀ k, (vat VT sa).ownBlock = some k → k < Wb.heap.size) := ⟨fun k hk => Kd.R_lt (H.out.rowT0 RW0.out) k hk⟩
      refine pure_ (i := 0) (N := some 43) (v := ?_) (a' := ?_) #[true, false, false, false, false, false, false, false, false, false, false, false, false, false, false, false, false, false, false, false, false, false, false, false, false, false, false, false] rfl rfl (any_of HT_.out (by kernel_rfl)) (fun _ _ _ h => h) (Or.inl ⟨by rfl, ?_⟩) ?_ ?_
      rotate_left
      · intro w'
        go_simp
        with_reducible rfl
      rotate_left
      · simp only [Act.put, List.setIfInBounds_toArray, List.set_cons_zero, List.set_cons_succ, i64_w, i32_w]
        rfl
      refine pure_ (i := 1) (N := some 44) (v := ?_) (a' := ?_) #[true, true, false, false, false, false, false, false, false, false, false, false, false, false, false, false, false, false, false, false, false, false, false, false, false, false, false, false] rfl rfl (any_of HT_.out (by kernel_rfl)) (fun _ _ _ h => h) (Or.inl ⟨by rfl, ?_⟩) ?_ ?_
      rotate_left
      · intro w'
        go_simp
        with_reducible rfl
      rotate_left
      · simp only [Act.put, List.setIfInBounds_toArray, List.set_cons_zero, List.set_cons_succ, i64_w, i32_w]
        rfl
      refine pure_ (i := 3) (N := some 46) (v := ?_) (a' := ?_) #[true, true, false, true, false, false, false, false, false, false, false, false, false, false, false, false, false, false, false, false, false, false, false, false, false, false, false, false] rfl rfl (any_of HT_.out (by kernel_rfl)) (fun _ _ _ h => h) (Or.inl ⟨by rfl, ?_⟩) ?_ ?_
      rotate_left
      · intro w'
        go_simp
        with_reducible rfl
      rotate_left
      · simp only [Act.put, List.setIfInBounds_toArray, List.set_cons_zero, List.set_cons_succ, i64_w, i32_w]
        rfl
      refine pure_ (i := 4) (N := some 47) (v := ?_) (a' := ?_) #[true, true, false, true, true, false, false, false, false, false, false, false, false, false, false, false, false, false, false, false, false, false, false, false, false, false, false, false] rfl rfl (any_of HT_.out (by kernel_rfl)) (fun _ _ _ h => h) (Or.inl ⟨by rfl, ?_⟩) ?_ ?_
      rotate_left
      · intro w'
        go_simp
        with_reducible rfl
      rotate_left
      · simp only [Act.put, List.setIfInBounds_toArray, List.set_cons_zero, List.set_cons_succ, i64_w, i32_w]
        rfl
      refine pure_ (i := 6) (N := some 49) (v := ?_) (a' := ?_) #[true, true, false, true, true, false, true, false, false, false, false, false, false, false, false, false, false, false, false, false, false, false, false, false, false, false, false, false] rfl rfl (any_of HT_.out (by kernel_rfl)) (fun _ _ _ h => h) (Or.inl ⟨by rfl, ?_⟩) ?_ ?_
      rotate_left
      · intro w'
        go_simp
        with_reducible rfl
      rotate_left
      · simp only [Act.put, List.setIfInBounds_toArray, List.set_cons_zero, List.set_cons_succ, i64_w, i32_w]
        rfl
      refine pure_ (i := 7) (N := some 50) (v := ?_) (a' := ?_) #[true, true, false, true, true, false, true, true, false, false, false, false, false, false, false, false, false, false, false, false, false, false, false, false, false, false, false, false] rfl rfl (any_of HT_.out (by kernel_rfl)) (fun _ _ _ h => h) (Or.inl ⟨by rfl, ?_⟩) ?_ ?_
      rotate_left
      · intro w'
        go_simp
        with_reducible rfl
      rotate_left
      · simp only [Act.put, List.setIfInBounds_toArray, List.set_cons_zero, List.set_cons_succ, i64_w, i32_w]
        rfl
      refine pure_ (i := 11) (N := some 54) (v := ?_) (a' := ?_) #[true, true, false, true, true, false, true, true, false, false, false, true, false, false, false, false, false, false, false, false, false, false, false, false, false, false, false, false] rfl rfl (any_of HT_.out (by kernel_rfl)) (fun _ _ _ h => h) (Or.inl ⟨by rfl, ?_⟩) ?_ ?_
      rotate_left
      · intro w'
        go_simp
        with_reducible rfl
      rotate_left
      · simp only [Act.put, List.setIfInBounds_toArray, List.set_cons_zero, List.set_cons_succ, i64_w, i32_w]
        rfl
      refine pure_ (i := 15) (N := some 58) (v := ?_) (a' := ?_) #[true, true, false, true, true, false, true, true, false, false, false, true, false, false, false, true, false, false, false, false, false, false, false, false, false, false, false, false] rfl rfl (any_of HT_.out (by kernel_rfl)) (fun _ _ _ h => h) (Or.inl ⟨by rfl, ?_⟩) ?_ ?_
      rotate_left
      · intro w'
        go_simp
        with_reducible rfl
      rotate_left
      · simp only [Act.put, List.setIfInBounds_toArray, List.set_cons_zero, List.set_cons_succ, i64_w, i32_w]
        rfl
      refine pure_ (i := 16) (N := some 59) (v := ?_) (a' := ?_) #[true, true, false, true, true, false, true, true, false, false, false, true, false, false, false, true, true, false, false, false, false, false, false, false, false, false, false, false] rfl rfl (any_of HT_.out (by kernel_rfl)) (fun _ _ _ h => h) (Or.inl ⟨by rfl, ?_⟩) ?_ ?_
      rotate_left
      · intro w'
        go_simp
        with_reducible rfl
      rotate_left
      · simp only [Act.put, List.setIfInBounds_toArray, List.set_cons_zero, List.set_cons_succ, i64_w, i32_w]
        rfl
      refine pure_ (i := 20) (N := some 63) (v := ?_) (a' := ?_) #[true, true, false, true, true, false, true, true, false, false, false, true, false, false, false, true, true, false, false, false, true, false, false, false, false, false, false, false] rfl rfl (any_of HT_.out (by kernel_rfl)) (fun _ _ _ h => h) (Or.inl ⟨by rfl, ?_⟩) ?_ ?_
      rotate_left
      · intro w'
        go_simp
        with_reducible rfl
      rotate_left
      · simp only [Act.put, List.setIfInBounds_toArray, List.set_cons_zero, List.set_cons_succ, i64_w, i32_w]
        rfl
      refine inv_at [2, 5, 8, 9, 10, 12, 13, 14, 17, 18, 19, 21, 22, 23, 24, 25, 26, 27] (fun a0_ b a w' => ∃ (z1 : Value) (z2 : Value) (z3 : Value) (z4 : Value), a = putSel a0_ b [(2, 45, .int .i64 (sb : Int)), (5, 48, .int .i64 (sa : Int)), (8, 51, .int .i64 (sb : Int)), (9, 52, .pointer (some ⟨gF, sb, none⟩)), (10, 53, vat VF sb), (12, 55, .int .i64 (sa : Int)), (13, 56, z1), (14, 57, z2), (17, 60, .int .i64 (sa : Int)), (18, 61, .pointer (some ⟨gT, sa, none⟩)), (19, 62, vat VT sa), (21, 64, .int .i64 (sb : Int)), (22, 65, z3), (23, 66, z4), (24, 67, .pointer (some ⟨gF, sb, none⟩)), (26, 68, .pointer (some ⟨gT, sa, none⟩))] ∧ (w'.heap[pe]? = some (.cells #[.int .i64 (sa : Int), .int .i64 (sb : Int)] 44 (0, 0))) ∧ (w'.heap[w.heap.size]? = some (pb l.length (some ad) es.length c (bt) (fv 15 #[PP bq]) (fv 14 #[]) (fv 26 #[]) (fv 27 #[PP bp]))) ∧ (b 25 = false → w'.heap[gF]? = some (.cells VF.toArray 55 (0, 0))) ∧ (b 25 = true → w'.heap[gF]? = some (.cells (VF.set sb z2).toArray 55 (0, 0))) ∧ (b 27 = false → w'.heap[gT]? = some (.cells VT.toArray 55 (0, 0))) ∧ (b 27 = true → w'.heap[gT]? = some (.cells (VT.set sa z4).toArray 55 (0, 0))) ∧ (b 14 = false → Rws w' w.heap.size (VF ++ VT) (F ++ T)) ∧ (b 14 = true → b 23 = false → Rws w' w.heap.size ((VF ++ VT).set sb z2) ((F ++ T).set sb (lat F sb ++ [(sa : Int)]))) ∧ (b 23 = true → Rws w' w.heap.size (((VF ++ VT).set sb z2).set (l.length + sa) z4) (((F ++ T).set sb (lat F sb ++ [(sa : Int)])).set (l.length + sa) (lat T sa ++ [(sb : Int)]))) ∧ (b 13 = true → b 14 = false → lit w' Wb.heap.size z1 (sa : Int)) ∧ (b 22 = true → b 23 = false → lit w' Wb.heap.size z3 (sb : Int)) ∧ (Below w.heap.size w w') ∧ (Kept Wb w' (fun k => (vat VF sb).ownBlock = some k ∨ (vat VT sa).ownBlock = some k ∨ k = gF ∨ k = gT))) HT_.out HW_.out (by kernel_rfl) (by kernel_rfl) ?_ ?_ ?_
      · exact ⟨.bool false, .bool false, .bool false, .bool false, by simp only [putSel, Bool.false_eq_true, if_false], PE.out, PB.out, fun _ => GF0.out, fun h_ => absurd h_ (by decide), fun _ => GT0.out, fun h_ => absurd h_ (by decide), fun _ => RW0.out, fun h_ => absurd h_ (by decide), fun h_ => absurd h_ (by decide), fun h_ => absurd h_ (by decide), fun h_ => absurd h_ (by decide), BL.out, FR.out⟩
      · skip
        clear BL FR GF0 GT0 PB PE RW0
        refine steps_cons ?_ ?_
        · rintro b a w' ⟨z1, z2, z3, z4, ha, Q_PE, Q_PB, Q_GF0, Q_GF1, Q_GT0, Q_GT1, Q_RW0, Q_RW1, Q_RW2, Q_L1, Q_L3, Q_BL, Q_FR⟩ hb_ hon hoff
          refine ⟨_, rfl, fun K hK => ?_⟩
          have e44 : a.tmps[44]? = some (.pointer (some ⟨pe, 1, none⟩)) := by rw [ha]; exact (putSel_off rfl).trans rfl
          replace ha := Aside0.mk ha
          have PE := Aside0.mk Q_PE
          have PB := Aside0.mk Q_PB
          have GF0 := Aside0.mk (Q_GF0 (hoff 25 (by kernel_rfl)))
          have GT0 := Aside0.mk (Q_GT0 (hoff 27 (by kernel_rfl)))
          have BL := Aside0.mk Q_BL
          have FR := Aside0.mk Q_FR
          have hs_ : w'.cell? ⟨pe, 1, none⟩ = some (.int .i64 (sb : Int)) := (blk_cell PE.out 1).trans rfl
          refine value_ (w1 := w') (v := .int .i64 (sb : Int)) (by rfl) rfl ?_ ?_
          · go_simp
            (try simp only [i64_w])
            try rfl
          refine hK.out _ _ ⟨z1, z2, z3, z4, (by rw [ha.out]; exact putSel_upk 0 hb_ rfl rfl rfl), Q_PE, Q_PB, Q_GF0, fun h0_ => absurd ((hoff 25 (by kernel_rfl)).symm.trans h0_) (by decide), Q_GT0, fun h0_ => absurd ((hoff 27 (by kernel_rfl)).symm.trans h0_) (by decide), Q_RW0, Q_RW1, Q_RW2, Q_L1, Q_L3, Q_BL, Q_FR⟩
        refine steps_cons ?_ ?_
        · rintro b a w' ⟨z1, z2, z3, z4, ha, Q_PE, Q_PB, Q_GF0, Q_GF1, Q_GT0, Q_GT1, Q_RW0, Q_RW1, Q_RW2, Q_L1, Q_L3, Q_BL, Q_FR⟩ hb_ hon hoff
          refine ⟨_, rfl, fun K hK => ?_⟩
          have e47 : a.tmps[47]? = some (.pointer (some ⟨pe, 0, none⟩)) := by rw [ha]; exact (putSel_off rfl).trans rfl
          replace ha := Aside0.mk ha
          have PE := Aside0.mk Q_PE
          have PB := Aside0.mk Q_PB
          have GT0 := Aside0.mk (Q_GT0 (hoff 27 (by kernel_rfl)))
          have BL := Aside0.mk Q_BL
          have FR := Aside0.mk Q_FR
          have hs_ : w'.cell? ⟨pe, 0, none⟩ = some (.int .i64 (sa : Int)) := (blk_cell PE.out 0).trans rfl
          refine value_ (w1 := w') (v := .int .i64 (sa : Int)) (by rfl) rfl ?_ ?_
          · go_simp
            (try simp only [i64_w])
            try rfl
          refine hK.out _ _ ⟨z1, z2, z3, z4, (by rw [ha.out]; exact putSel_upk 1 hb_ rfl rfl rfl), Q_PE, Q_PB, Q_GF0, Q_GF1, Q_GT0, fun h0_ => absurd ((hoff 27 (by kernel_rfl)).symm.trans h0_) (by decide), Q_RW0, Q_RW1, Q_RW2, Q_L1, Q_L3, Q_BL, Q_FR⟩
        refine steps_cons ?_ ?_
        · rintro b a w' ⟨z1, z2, z3, z4, ha, Q_PE, Q_PB, Q_GF0, Q_GF1, Q_GT0, Q_GT1, Q_RW0, Q_RW1, Q_RW2, Q_L1, Q_L3, Q_BL, Q_FR⟩ hb_ hon hoff
          refine ⟨_, rfl, fun K hK => ?_⟩
          have e50 : a.tmps[50]? = some (.pointer (some ⟨pe, 1, none⟩)) := by rw [ha]; exact (putSel_off rfl).trans rfl
          replace ha := Aside0.mk ha
          have PE := Aside0.mk Q_PE
          have PB := Aside0.mk Q_PB
          have GF0 := Aside0.mk (Q_GF0 (hoff 25 (by kernel_rfl)))
          have GT0 := Aside0.mk (Q_GT0 (hoff 27 (by kernel_rfl)))
          have RW0 := Aside0.mk (Q_RW0 (hoff 14 (by kernel_rfl)))
          have BL := Aside0.mk Q_BL
          have FR := Aside0.mk Q_FR
          have hs_ : w'.cell? ⟨pe, 1, none⟩ = some (.int .i64 (sb : Int)) := (blk_cell PE.out 1).trans rfl
          refine value_ (w1 := w') (v := .int .i64 (sb : Int)) (by rfl) rfl ?_ ?_
          · go_simp
            (try simp only [i64_w])
            try rfl
          refine hK.out _ _ ⟨z1, z2, z3, z4, (by rw [ha.out]; exact putSel_upk 2 hb_ rfl rfl rfl), Q_PE, Q_PB, Q_GF0, fun h0_ => absurd ((hoff 25 (by kernel_rfl)).symm.trans h0_) (by decide), Q_GT0, fun h0_ => absurd ((hoff 27 (by kernel_rfl)).symm.trans h0_) (by decide), Q_RW0, fun h0_ _ => absurd ((hoff 14 (by kernel_rfl)).symm.trans h0_) (by decide), fun h0_ => absurd ((hoff 23 (by kernel_rfl)).symm.trans h0_) (by decide), Q_L1, Q_L3, Q_BL, Q_FR⟩
        refine steps_cons ?_ ?_
        · rintro b a w' ⟨z1, z2, z3, z4, ha, Q_PE, Q_PB, Q_GF0, Q_GF1, Q_GT0, Q_GT1, Q_RW0, Q_RW1, Q_RW2, Q_L1, Q_L3, Q_BL, Q_FR⟩ hb_ hon hoff
          refine ⟨_, rfl, fun K hK => ?_⟩
          have e49 : a.tmps[49]? = some (.slice (some ⟨gF, 0, none⟩) l.length l.length) := by rw [ha]; exact (putSel_off rfl).trans rfl
          have e51 : a.tmps[51]? = some (.int .i64 (sb : Int)) := by rw [ha]; exact putSel_on (e := (8, 51, .int .i64 (sb : Int))) 2 rfl rfl (hon 8 (by kernel_rfl)) rfl
          replace ha := Aside0.mk ha
          have PE := Aside0.mk Q_PE
          have PB := Aside0.mk Q_PB
          have GF0 := Aside0.mk (Q_GF0 (hoff 25 (by kernel_rfl)))
          have GT0 := Aside0.mk (Q_GT0 (hoff 27 (by kernel_rfl)))
          have RW0 := Aside0.mk (Q_RW0 (hoff 14 (by kernel_rfl)))
          have BL := Aside0.mk Q_BL
          have FR := Aside0.mk Q_FR
          refine value_ (w1 := w') (v := .pointer (some ⟨gF, sb, none⟩)) (by rfl) rfl ?_ ?_
          · go_simp
            (try simp only [i64_w])
            try rfl
          refine hK.out _ _ ⟨z1, z2, z3, z4, (by rw [ha.out]; exact putSel_upk 3 hb_ rfl rfl rfl), Q_PE, Q_PB, Q_GF0, fun h0_ => absurd ((hoff 25 (by kernel_rfl)).symm.trans h0_) (by decide), Q_GT0, fun h0_ => absurd ((hoff 27 (by kernel_rfl)).symm.trans h0_) (by decide), Q_RW0, fun h0_ _ => absurd ((hoff 14 (by kernel_rfl)).symm.trans h0_) (by decide), fun h0_ => absurd ((hoff 23 (by kernel_rfl)).symm.trans h0_) (by decide), Q_L1, Q_L3, Q_BL, Q_FR⟩
        refine steps_cons ?_ ?_
        · rintro b a w' ⟨z1, z2, z3, z4, ha, Q_PE, Q_PB, Q_GF0, Q_GF1, Q_GT0, Q_GT1, Q_RW0, Q_RW1, Q_RW2, Q_L1, Q_L3, Q_BL, Q_FR⟩ hb_ hon hoff
          refine ⟨_, rfl, fun K hK => ?_⟩
          have e52 : a.tmps[52]? = some (.pointer (some ⟨gF, sb, none⟩)) := by rw [ha]; exact putSel_on (e := (9, 52, .pointer (some ⟨gF, sb, none⟩))) 3 rfl rfl (hon 9 (by kernel_rfl)) rfl
          replace ha := Aside0.mk ha
          have PE := Aside0.mk Q_PE
          have PB := Aside0.mk Q_PB
          have GF0 := Aside0.mk (Q_GF0 (hoff 25 (by kernel_rfl)))
          have GT0 := Aside0.mk (Q_GT0 (hoff 27 (by kernel_rfl)))
          have RW0 := Aside0.mk (Q_RW0 (hoff 14 (by kernel_rfl)))
          have BL := Aside0.mk Q_BL
          have FR := Aside0.mk Q_FR
          have hs_ : w'.cell? ⟨gF, sb, none⟩ = some (vat VF sb) := tab_cell GF0.out sb hbV
          refine value_ (w1 := w') (v := vat VF sb) (by rfl) rfl ?_ ?_
          · go_simp
            (try simp only [i64_w])
            try rfl
          refine hK.out _ _ ⟨z1, z2, z3, z4, (by rw [ha.out]; exact putSel_upk 4 hb_ rfl rfl rfl), Q_PE, Q_PB, Q_GF0, fun h0_ => absurd ((hoff 25 (by kernel_rfl)).symm.trans h0_) (by decide), Q_GT0, fun h0_ => absurd ((hoff 27 (by kernel_rfl)).symm.trans h0_) (by decide), Q_RW0, fun h0_ _ => absurd ((hoff 14 (by kernel_rfl)).symm.trans h0_) (by decide), fun h0_ => absurd ((hoff 23 (by kernel_rfl)).symm.trans h0_) (by decide), Q_L1, Q_L3, Q_BL, Q_FR⟩
        refine steps_cons ?_ ?_
        · rintro b a w' ⟨z1, z2, z3, z4, ha, Q_PE, Q_PB, Q_GF0, Q_GF1, Q_GT0, Q_GT1, Q_RW0, Q_RW1, Q_RW2, Q_L1, Q_L3, Q_BL, Q_FR⟩ hb_ hon hoff
          refine ⟨_, rfl, fun K hK => ?_⟩
          have e54 : a.tmps[54]? = some (.pointer (some ⟨pe, 0, none⟩)) := by rw [ha]; exact (putSel_off rfl).trans rfl
          replace ha := Aside0.mk ha
          have PE := Aside0.mk Q_PE
          have PB := Aside0.mk Q_PB
          have GF0 := Aside0.mk (Q_GF0 (hoff 25 (by kernel_rfl)))
          have GT0 := Aside0.mk (Q_GT0 (hoff 27 (by kernel_rfl)))
          have RW0 := Aside0.mk (Q_RW0 (hoff 14 (by kernel_rfl)))
          have BL := Aside0.mk Q_BL
          have FR := Aside0.mk Q_FR
          have hs_ : w'.cell? ⟨pe, 0, none⟩ = some (.int .i64 (sa : Int)) := (blk_cell PE.out 0).trans rfl
          refine value_ (w1 := w') (v := .int .i64 (sa : Int)) (by rfl) rfl ?_ ?_
          · go_simp
            (try simp only [i64_w])
            try rfl
          refine hK.out _ _ ⟨z1, z2, z3, z4, (by rw [ha.out]; exact putSel_upk 5 hb_ rfl rfl rfl), Q_PE, Q_PB, Q_GF0, fun h0_ => absurd ((hoff 25 (by kernel_rfl)).symm.trans h0_) (by decide), Q_GT0, fun h0_ => absurd ((hoff 27 (by kernel_rfl)).symm.trans h0_) (by decide), Q_RW0, fun h0_ _ => absurd ((hoff 14 (by kernel_rfl)).symm.trans h0_) (by decide), fun h0_ => absurd ((hoff 23 (by kernel_rfl)).symm.trans h0_) (by decide), fun h0_ _ => absurd ((hoff 13 (by kernel_rfl)).symm.trans h0_) (by decide), Q_L3, Q_BL, Q_FR⟩
        refine steps_cons ?_ ?_
        · rintro b a w' ⟨z1, z2, z3, z4, ha, Q_PE, Q_PB, Q_GF0, Q_GF1, Q_GT0, Q_GT1, Q_RW0, Q_RW1, Q_RW2, Q_L1, Q_L3, Q_BL, Q_FR⟩ hb_ hon hoff
          refine ⟨_, rfl, fun K hK => ?_⟩
          have e55 : a.tmps[55]? = some (.int .i64 (sa : Int)) := by rw [ha]; exact putSel_on (e := (12, 55, .int .i64 (sa : Int))) 5 rfl rfl (hon 12 (by kernel_rfl)) rfl
          replace ha := Aside0.mk ha
          have PE := Aside0.mk Q_PE
          have PB := Aside0.mk Q_PB
          have GF0 := Aside0.mk (Q_GF0 (hoff 25 (by kernel_rfl)))
          have GT0 := Aside0.mk (Q_GT0 (hoff 27 (by kernel_rfl)))
          have RW0 := Aside0.mk (Q_RW0 (hoff 14 (by kernel_rfl)))
          have BL := Aside0.mk Q_BL
          have FR := Aside0.mk Q_FR
          refine value_ (w1 := w'.alloc (.cells #[(Value.int .i64 (sa : Int))] 3)) (v := .slice (some ⟨w'.heap.size, 0, none⟩) 1 1) (by rfl) rfl ?_ ?_
          · go_simp
          refine hK.out _ _ ⟨.slice (some ⟨w'.heap.size, 0, none⟩) 1 1, z2, z3, z4, (by rw [ha.out]; exact putSel_upk 6 hb_ rfl rfl rfl), blk_alloc PE.out _, blk_alloc PB.out _, fun _ => blk_alloc GF0.out _, fun h0_ => absurd ((hoff 25 (by kernel_rfl)).symm.trans h0_) (by decide), fun _ => blk_alloc GT0.out _, fun h0_ => absurd ((hoff 27 (by kernel_rfl)).symm.trans h0_) (by decide), fun _ => RW0.out.alloc _, fun h0_ _ => absurd ((hoff 14 (by kernel_rfl)).symm.trans h0_) (by decide), fun h0_ => absurd ((hoff 23 (by kernel_rfl)).symm.trans h0_) (by decide), fun _ _ => lit.new w' FR.out.1 _, fun h0_ h1_ => lit.alloc (Q_L3 h0_ h1_) _, below_alloc BL.out _, Kept.alloc FR.out _⟩
        refine steps_cons ?_ ?_
        · rintro b a w' ⟨z1, z2, z3, z4, ha, Q_PE, Q_PB, Q_GF0, Q_GF1, Q_GT0, Q_GT1, Q_RW0, Q_RW1, Q_RW2, Q_L1, Q_L3, Q_BL, Q_FR⟩ hb_ hon hoff
          refine ⟨_, rfl, fun K hK => ?_⟩
          have e53 : a.tmps[53]? = some (vat VF sb) := by rw [ha]; exact putSel_on (e := (10, 53, vat VF sb)) 4 rfl rfl (hon 10 (by kernel_rfl)) rfl
          have e56 : a.tmps[56]? = some (z1) := by rw [ha]; exact putSel_on (e := (13, 56, z1)) 6 rfl rfl (hon 13 (by kernel_rfl)) rfl
          replace ha := Aside0.mk ha
          have PE := Aside0.mk Q_PE
          have PB := Aside0.mk Q_PB
          have GF0 := Aside0.mk (Q_GF0 (hoff 25 (by kernel_rfl)))
          have GT0 := Aside0.mk (Q_GT0 (hoff 27 (by kernel_rfl)))
          have RW0 := Aside0.mk (Q_RW0 hb_)
          have L1 := Aside0.mk (Q_L1 (hon 13 (by kernel_rfl)) hb_)
          have BL := Aside0.mk Q_BL
          have FR := Aside0.mk Q_FR
          obtain ⟨b1_, hb1_, hz1_, hB1_⟩ := L1.out
          refine Kd.R_append_rows_step (Kd.int .i64) (Rr := (Kd.int .i64).K w') (w0 := w) w.heap.size (by rfl) (.tmp 53) (.tmp 56) 55 3 (.int .i64 0) 8 rfl Try.underlying55 info3 rfl (by decide) (by omega) (vat VF sb) (lat F sb) [(sa : Int)] (some ⟨b1_, 0, none⟩) 1 1 (fun _ => True) (fun _ => False) (eval_of e53) ((eval_of e56).trans hz1_) (H.out.rowF RW0.out) (lit_C hB1_) (fun _ _ h => h) (fun _ h => h.elim) (fun _ _ => trivial) BL.out BL.out.size (by have := hlF.out; omega) ?_
          intro v1 w1 ho hb hg hat
          refine hK.out _ _ ⟨z1, v1, z3, z4, (by rw [ha.out]; exact putSel_upk 7 hb_ rfl rfl rfl), blk_grown PE.out hg (Kd.R_ne (H.out.rowF RW0.out) PE.out (by decide)), blk_grown PB.out hg (Kd.R_ne (H.out.rowF RW0.out) PB.out (by decide)), fun _ => blk_grown GF0.out hg (Kd.R_ne (H.out.rowF RW0.out) GF0.out (by decide)), fun h0_ => absurd ((hoff 25 (by kernel_rfl)).symm.trans h0_) (by decide), fun _ => blk_grown GT0.out hg (Kd.R_ne (H.out.rowF RW0.out) GT0.out (by decide)), fun h0_ => absurd ((hoff 27 (by kernel_rfl)).symm.trans h0_) (by decide), fun h0_ => absurd ((up_self b 14).symm.trans h0_) (by decide), fun _ _ => H.out.appF RW0.out hg ho hat, fun h0_ => absurd ((hoff 23 (by kernel_rfl)).symm.trans h0_) (by decide), fun _ h1_ => absurd ((up_self b 14).symm.trans h1_) (by decide), fun h0_ h1_ => lit.grown (Q_L3 h0_ h1_) hg (hlo1.out), hb, Kept.of_grown hg FR.out (fun k hk => .inl (.inl hk))⟩
        refine steps_cons ?_ ?_
        · rintro b a w' ⟨z1, z2, z3, z4, ha, Q_PE, Q_PB, Q_GF0, Q_GF1, Q_GT0, Q_GT1, Q_RW0, Q_RW1, Q_RW2, Q_L1, Q_L3, Q_BL, Q_FR⟩ hb_ hon hoff
          refine ⟨_, rfl, fun K hK => ?_⟩
          have e59 : a.tmps[59]? = some (.pointer (some ⟨pe, 0, none⟩)) := by rw [ha]; exact (putSel_off rfl).trans rfl
          replace ha := Aside0.mk ha
          have PE := Aside0.mk Q_PE
          have PB := Aside0.mk Q_PB
          have GF0 := Aside0.mk (Q_GF0 (hoff 25 (by kernel_rfl)))
          have GT0 := Aside0.mk (Q_GT0 (hoff 27 (by kernel_rfl)))
          have BL := Aside0.mk Q_BL
          have FR := Aside0.mk Q_FR
          have hs_ : w'.cell? ⟨pe, 0, none⟩ = some (.int .i64 (sa : Int)) := (blk_cell PE.out 0).trans rfl
          refine value_ (w1 := w') (v := .int .i64 (sa : Int)) (by rfl) rfl ?_ ?_
          · go_simp
            (try simp only [i64_w])
            try rfl
          refine hK.out _ _ ⟨z1, z2, z3, z4, (by rw [ha.out]; exact putSel_upk 8 hb_ rfl rfl rfl), Q_PE, Q_PB, Q_GF0, fun h0_ => absurd ((hoff 25 (by kernel_rfl)).symm.trans h0_) (by decide), Q_GT0, fun h0_ => absurd ((hoff 27 (by kernel_rfl)).symm.trans h0_) (by decide), Q_RW0, Q_RW1, fun h0_ => absurd ((hoff 23 (by kernel_rfl)).symm.trans h0_) (by decide), Q_L1, Q_L3, Q_BL, Q_FR⟩
        refine steps_cons ?_ ?_
        · rintro b a w' ⟨z1, z2, z3, z4, ha, Q_PE, Q_PB, Q_GF0, Q_GF1, Q_GT0, Q_GT1, Q_RW0, Q_RW1, Q_RW2, Q_L1, Q_L3, Q_BL, Q_FR⟩ hb_ hon hoff
          refine ⟨_, rfl, fun K hK => ?_⟩
          have e58 : a.tmps[58]? = some (.slice (some ⟨gT, 0, none⟩) l.length l.length) := by rw [ha]; exact (putSel_off rfl).trans rfl
          have e60 : a.tmps[60]? = some (.int .i64 (sa : Int)) := by rw [ha]; exact putSel_on (e := (17, 60, .int .i64 (sa : Int))) 8 rfl rfl (hon 17 (by kernel_rfl)) rfl
          replace ha := Aside0.mk ha
          have PE := Aside0.mk Q_PE
          have PB := Aside0.mk Q_PB
          have GF0 := Aside0.mk (Q_GF0 (hoff 25 (by kernel_rfl)))
          have GT0 := Aside0.mk (Q_GT0 (hoff 27 (by kernel_rfl)))
          have BL := Aside0.mk Q_BL
          have FR := Aside0.mk Q_FR
          refine value_ (w1 := w') (v := .pointer (some ⟨gT, sa, none⟩)) (by rfl) rfl ?_ ?_
          · go_simp
            (try simp only [i64_w])
            try rfl
          refine hK.out _ _ ⟨z1, z2, z3, z4, (by rw [ha.out]; exact putSel_upk 9 hb_ rfl rfl rfl), Q_PE, Q_PB, Q_GF0, fun h0_ => absurd ((hoff 25 (by kernel_rfl)).symm.trans h0_) (by decide), Q_GT0, fun h0_ => absurd ((hoff 27 (by kernel_rfl)).symm.trans h0_) (by decide), Q_RW0, Q_RW1, fun h0_ => absurd ((hoff 23 (by kernel_rfl)).symm.trans h0_) (by decide), Q_L1, Q_L3, Q_BL, Q_FR⟩
        refine steps_cons ?_ ?_
        · rintro b a w' ⟨z1, z2, z3, z4, ha, Q_PE, Q_PB, Q_GF0, Q_GF1, Q_GT0, Q_GT1, Q_RW0, Q_RW1, Q_RW2, Q_L1, Q_L3, Q_BL, Q_FR⟩ hb_ hon hoff
          refine ⟨_, rfl, fun K hK => ?_⟩
          have e61 : a.tmps[61]? = some (.pointer (some ⟨gT, sa, none⟩)) := by rw [ha]; exact putSel_on (e := (18, 61, .pointer (some ⟨gT, sa, none⟩))) 9 rfl rfl (hon 18 (by kernel_rfl)) rfl
          replace ha := Aside0.mk ha
          have PE := Aside0.mk Q_PE
          have PB := Aside0.mk Q_PB
          have GF0 := Aside0.mk (Q_GF0 (hoff 25 (by kernel_rfl)))
          have GT0 := Aside0.mk (Q_GT0 (hoff 27 (by kernel_rfl)))
          have BL := Aside0.mk Q_BL
          have FR := Aside0.mk Q_FR
          have hs_ : w'.cell? ⟨gT, sa, none⟩ = some (vat VT sa) := tab_cell GT0.out sa haV
          refine value_ (w1 := w') (v := vat VT sa) (by rfl) rfl ?_ ?_
          · go_simp
            (try simp only [i64_w])
            try rfl
          refine hK.out _ _ ⟨z1, z2, z3, z4, (by rw [ha.out]; exact putSel_upk 10 hb_ rfl rfl rfl), Q_PE, Q_PB, Q_GF0, fun h0_ => absurd ((hoff 25 (by kernel_rfl)).symm.trans h0_) (by decide), Q_GT0, fun h0_ => absurd ((hoff 27 (by kernel_rfl)).symm.trans h0_) (by decide), Q_RW0, Q_RW1, fun h0_ => absurd ((hoff 23 (by kernel_rfl)).symm.trans h0_) (by decide), Q_L1, Q_L3, Q_BL, Q_FR⟩
        refine steps_cons ?_ ?_
        · rintro b a w' ⟨z1, z2, z3, z4, ha, Q_PE, Q_PB, Q_GF0, Q_GF1, Q_GT0, Q_GT1, Q_RW0, Q_RW1, Q_RW2, Q_L1, Q_L3, Q_BL, Q_FR⟩ hb_ hon hoff
          refine ⟨_, rfl, fun K hK => ?_⟩
          have e63 : a.tmps[63]? = some (.pointer (some ⟨pe, 1, none⟩)) := by rw [ha]; exact (putSel_off rfl).trans rfl
          replace ha := Aside0.mk ha
          have PE := Aside0.mk Q_PE
          have PB := Aside0.mk Q_PB
          have GF0 := Aside0.mk (Q_GF0 (hoff 25 (by kernel_rfl)))
          have GT0 := Aside0.mk (Q_GT0 (hoff 27 (by kernel_rfl)))
          have BL := Aside0.mk Q_BL
          have FR := Aside0.mk Q_FR
          have hs_ : w'.cell? ⟨pe, 1, none⟩ = some (.int .i64 (sb : Int)) := (blk_cell PE.out 1).trans rfl
          refine value_ (w1 := w') (v := .int .i64 (sb : Int)) (by rfl) rfl ?_ ?_
          · go_simp
            (try simp only [i64_w])
            try rfl
          refine hK.out _ _ ⟨z1, z2, z3, z4, (by rw [ha.out]; exact putSel_upk 11 hb_ rfl rfl rfl), Q_PE, Q_PB, Q_GF0, fun h0_ => absurd ((hoff 25 (by kernel_rfl)).symm.trans h0_) (by decide), Q_GT0, fun h0_ => absurd ((hoff 27 (by kernel_rfl)).symm.trans h0_) (by decide), Q_RW0, Q_RW1, fun h0_ => absurd ((hoff 23 (by kernel_rfl)).symm.trans h0_) (by decide), Q_L1, fun h0_ _ => absurd ((hoff 22 (by kernel_rfl)).symm.trans h0_) (by decide), Q_BL, Q_FR⟩
        refine steps_cons ?_ ?_
        · rintro b a w' ⟨z1, z2, z3, z4, ha, Q_PE, Q_PB, Q_GF0, Q_GF1, Q_GT0, Q_GT1, Q_RW0, Q_RW1, Q_RW2, Q_L1, Q_L3, Q_BL, Q_FR⟩ hb_ hon hoff
          refine ⟨_, rfl, fun K hK => ?_⟩
          have e64 : a.tmps[64]? = some (.int .i64 (sb : Int)) := by rw [ha]; exact putSel_on (e := (21, 64, .int .i64 (sb : Int))) 11 rfl rfl (hon 21 (by kernel_rfl)) rfl
          replace ha := Aside0.mk ha
          have PE := Aside0.mk Q_PE
          have PB := Aside0.mk Q_PB
          have GF0 := Aside0.mk (Q_GF0 (hoff 25 (by kernel_rfl)))
          have GT0 := Aside0.mk (Q_GT0 (hoff 27 (by kernel_rfl)))
          have BL := Aside0.mk Q_BL
          have FR := Aside0.mk Q_FR
          refine value_ (w1 := w'.alloc (.cells #[(Value.int .i64 (sb : Int))] 3)) (v := .slice (some ⟨w'.heap.size, 0, none⟩) 1 1) (by rfl) rfl ?_ ?_
          · go_simp
          refine hK.out _ _ ⟨z1, z2, .slice (some ⟨w'.heap.size, 0, none⟩) 1 1, z4, (by rw [ha.out]; exact putSel_upk 12 hb_ rfl rfl rfl), blk_alloc PE.out _, blk_alloc PB.out _, fun _ => blk_alloc GF0.out _, fun h0_ => absurd ((hoff 25 (by kernel_rfl)).symm.trans h0_) (by decide), fun _ => blk_alloc GT0.out _, fun h0_ => absurd ((hoff 27 (by kernel_rfl)).symm.trans h0_) (by decide), fun h0_ => (Q_RW0 h0_).alloc _, fun h0_ h1_ => (Q_RW1 h0_ h1_).alloc _, fun h0_ => absurd ((hoff 23 (by kernel_rfl)).symm.trans h0_) (by decide), fun h0_ h1_ => lit.alloc (Q_L1 h0_ h1_) _, fun _ _ => lit.new w' FR.out.1 _, below_alloc BL.out _, Kept.alloc FR.out _⟩
        refine steps_cons ?_ ?_
        · rintro b a w' ⟨z1, z2, z3, z4, ha, Q_PE, Q_PB, Q_GF0, Q_GF1, Q_GT0, Q_GT1, Q_RW0, Q_RW1, Q_RW2, Q_L1, Q_L3, Q_BL, Q_FR⟩ hb_ hon hoff
          refine ⟨_, rfl, fun K hK => ?_⟩
          have e62 : a.tmps[62]? = some (vat VT sa) := by rw [ha]; exact putSel_on (e := (19, 62, vat VT sa)) 10 rfl rfl (hon 19 (by kernel_rfl)) rfl
          have e65 : a.tmps[65]? = some (z3) := by rw [ha]; exact putSel_on (e := (22, 65, z3)) 12 rfl rfl (hon 22 (by kernel_rfl)) rfl
          replace ha := Aside0.mk ha
          have PE := Aside0.mk Q_PE
          have PB := Aside0.mk Q_PB
          have GF0 := Aside0.mk (Q_GF0 (hoff 25 (by kernel_rfl)))
          have GT0 := Aside0.mk (Q_GT0 (hoff 27 (by kernel_rfl)))
          have RW1 := Aside0.mk (Q_RW1 (hon 14 (by kernel_rfl)) hb_)
          have L3 := Aside0.mk (Q_L3 (hon 22 (by kernel_rfl)) hb_)
          have BL := Aside0.mk Q_BL
          have FR := Aside0.mk Q_FR
          obtain ⟨b1_, hb1_, hz1_, hB1_⟩ := L3.out
          refine Kd.R_append_rows_step (Kd.int .i64) (Rr := (Kd.int .i64).K w') (w0 := w) w.heap.size (by rfl) (.tmp 62) (.tmp 65) 55 3 (.int .i64 0) 8 rfl Try.underlying55 info3 rfl (by decide) (by omega) (vat VT sa) (lat T sa) [(sb : Int)] (some ⟨b1_, 0, none⟩) 1 1 (fun _ => True) (fun _ => False) (eval_of e62) ((eval_of e65).trans hz1_) (H.out.rowT RW1.out) (lit_C hB1_) (fun _ _ h => h) (fun _ h => h.elim) (fun _ _ => trivial) BL.out BL.out.size (by have := hlT.out; omega) ?_
          intro v1 w1 ho hb hg hat
          refine hK.out _ _ ⟨z1, z2, z3, v1, (by rw [ha.out]; exact putSel_upk 13 hb_ rfl rfl rfl), blk_grown PE.out hg (Kd.R_ne (H.out.rowT RW1.out) PE.out (by decide)), blk_grown PB.out hg (Kd.R_ne (H.out.rowT RW1.out) PB.out (by decide)), fun _ => blk_grown GF0.out hg (Kd.R_ne (H.out.rowT RW1.out) GF0.out (by decide)), fun h0_ => absurd ((hoff 25 (by kernel_rfl)).symm.trans h0_) (by decide), fun _ => blk_grown GT0.out hg (Kd.R_ne (H.out.rowT RW1.out) GT0.out (by decide)), fun h0_ => absurd ((hoff 27 (by kernel_rfl)).symm.trans h0_) (by decide), fun h0_ => absurd ((hon 14 (by kernel_rfl)).symm.trans h0_) (by decide), fun _ h1_ => absurd ((up_self b 23).symm.trans h1_) (by decide), fun _ => H.out.appT RW1.out hg ho hat, fun _ h1_ => absurd ((hon 14 (by kernel_rfl)).symm.trans h1_) (by decide), fun _ h1_ => absurd ((up_self b 23).symm.trans h1_) (by decide), hb, Kept.of_grown hg FR.out (fun k hk => .inl (.inr (.inl hk)))⟩
        refine steps_cons ?_ ?_
        · rintro b a w' ⟨z1, z2, z3, z4, ha, Q_PE, Q_PB, Q_GF0, Q_GF1, Q_GT0, Q_GT1, Q_RW0, Q_RW1, Q_RW2, Q_L1, Q_L3, Q_BL, Q_FR⟩ hb_ hon hoff
          refine ⟨_, rfl, fun K hK => ?_⟩
          have e43 : a.tmps[43]? = some (.slice (some ⟨gF, 0, none⟩) l.length l.length) := by rw [ha]; exact (putSel_off rfl).trans rfl
          have e45 : a.tmps[45]? = some (.int .i64 (sb : Int)) := by rw [ha]; exact putSel_on (e := (2, 45, .int .i64 (sb : Int))) 0 rfl rfl (hon 2 (by kernel_rfl)) rfl
          replace ha := Aside0.mk ha
          have PE := Aside0.mk Q_PE
          have PB := Aside0.mk Q_PB
          have GF0 := Aside0.mk (Q_GF0 (hoff 25 (by kernel_rfl)))
          have GT0 := Aside0.mk (Q_GT0 (hoff 27 (by kernel_rfl)))
          have RW2 := Aside0.mk (Q_RW2 (hon 23 (by kernel_rfl)))
          have BL := Aside0.mk Q_BL
          have FR := Aside0.mk Q_FR
          refine value_ (w1 := w') (v := .pointer (some ⟨gF, sb, none⟩)) (by rfl) rfl ?_ ?_
          · go_simp
            (try simp only [i64_w])
            try rfl
          refine hK.out _ _ ⟨z1, z2, z3, z4, (by rw [ha.out]; exact putSel_upk 14 hb_ rfl rfl rfl), Q_PE, Q_PB, Q_GF0, fun h0_ => absurd ((hoff 25 (by kernel_rfl)).symm.trans h0_) (by decide), Q_GT0, fun h0_ => absurd ((hoff 27 (by kernel_rfl)).symm.trans h0_) (by decide), fun h0_ => absurd ((hon 14 (by kernel_rfl)).symm.trans h0_) (by decide), fun _ h1_ => absurd ((hon 23 (by kernel_rfl)).symm.trans h1_) (by decide), Q_RW2, fun _ h1_ => absurd ((hon 14 (by kernel_rfl)).symm.trans h1_) (by decide), fun _ h1_ => absurd ((hon 23 (by kernel_rfl)).symm.trans h1_) (by decide), Q_BL, Q_FR⟩
        refine steps_cons ?_ ?_
        · rintro b a w' ⟨z1, z2, z3, z4, ha, Q_PE, Q_PB, Q_GF0, Q_GF1, Q_GT0, Q_GT1, Q_RW0, Q_RW1, Q_RW2, Q_L1, Q_L3, Q_BL, Q_FR⟩ hb_ hon hoff
          refine ⟨_, rfl, fun K hK => ?_⟩
          have e67 : a.tmps[67]? = some (.pointer (some ⟨gF, sb, none⟩)) := by rw [ha]; exact putSel_on (e := (24, 67, .pointer (some ⟨gF, sb, none⟩))) 14 rfl rfl (hon 24 (by kernel_rfl)) rfl
          have e57 : a.tmps[57]? = some (z2) := by rw [ha]; exact putSel_on (e := (14, 57, z2)) 7 rfl rfl (hon 14 (by kernel_rfl)) rfl
          replace ha := Aside0.mk ha
          have PE := Aside0.mk Q_PE
          have PB := Aside0.mk Q_PB
          have GF0 := Aside0.mk (Q_GF0 hb_)
          have GT0 := Aside0.mk (Q_GT0 (hoff 27 (by kernel_rfl)))
          have RW2 := Aside0.mk (Q_RW2 (hon 23 (by kernel_rfl)))
          have BL := Aside0.mk Q_BL
          have FR := Aside0.mk Q_FR
          have hs_ : w'.cell? ⟨gF, sb, none⟩ = some (vat VF sb) := tab_cell GF0.out sb hbV
          have hf_ := blk_frozen GF0.out sb
          obtain ⟨A5_, c5_, hz5_⟩ := H.out.slF RW2.out
          have e57' := e57
          rw [hz5_] at e57'
          clear e57
          refine skip_ (w1 := w'.setCell ⟨gF, sb, none⟩ z2) (by rfl) rfl ?_ ?_
          · rw [hz5_]
            clear hz5_
            go_simp
          refine hK.out _ _ ⟨z1, z2, z3, z4, (by rw [ha.out]; exact putSel_none (v := undef) rfl), blk_far PE.out (ne_ty PE.out GF0.out rfl) _, blk_far PB.out (ne_ty PB.out GF0.out rfl) _, fun h0_ => absurd ((up_self b 25).symm.trans h0_) (by decide), fun _ => tab_set GF0.out sb z2, fun _ => blk_far GT0.out hgs.out.2.2.1.symm _, fun h0_ => absurd ((hoff 27 (by kernel_rfl)).symm.trans h0_) (by decide), fun h0_ => absurd ((hon 14 (by kernel_rfl)).symm.trans h0_) (by decide), fun _ h1_ => absurd ((hon 23 (by kernel_rfl)).symm.trans h1_) (by decide), fun _ => RW2.out.set_ GF0.out (by decide) _ _, fun _ h1_ => absurd ((hon 14 (by kernel_rfl)).symm.trans h1_) (by decide), fun _ h1_ => absurd ((hon 23 (by kernel_rfl)).symm.trans h1_) (by decide), below_set BL.out hgs.out.1, Kept.setCell FR.out (.inl (.inr (.inr (.inl rfl)))) _⟩
        refine steps_cons ?_ ?_
        · rintro b a w' ⟨z1, z2, z3, z4, ha, Q_PE, Q_PB, Q_GF0, Q_GF1, Q_GT0, Q_GT1, Q_RW0, Q_RW1, Q_RW2, Q_L1, Q_L3, Q_BL, Q_FR⟩ hb_ hon hoff
          refine ⟨_, rfl, fun K hK => ?_⟩
          have e46 : a.tmps[46]? = some (.slice (some ⟨gT, 0, none⟩) l.length l.length) := by rw [ha]; exact (putSel_off rfl).trans rfl
          have e48 : a.tmps[48]? = some (.int .i64 (sa : Int)) := by rw [ha]; exact putSel_on (e := (5, 48, .int .i64 (sa : Int))) 1 rfl rfl (hon 5 (by kernel_rfl)) rfl
          replace ha := Aside0.mk ha
          have PE := Aside0.mk Q_PE
          have PB := Aside0.mk Q_PB
          have GF1 := Aside0.mk (Q_GF1 (hon 25 (by kernel_rfl)))
          have GT0 := Aside0.mk (Q_GT0 (hoff 27 (by kernel_rfl)))
          have RW2 := Aside0.mk (Q_RW2 (hon 23 (by kernel_rfl)))
          have BL := Aside0.mk Q_BL
          have FR := Aside0.mk Q_FR
          refine value_ (w1 := w') (v := .pointer (some ⟨gT, sa, none⟩)) (by rfl) rfl ?_ ?_
          · go_simp
            (try simp only [i64_w])
            try rfl
          refine hK.out _ _ ⟨z1, z2, z3, z4, (by rw [ha.out]; exact putSel_upk 15 hb_ rfl rfl rfl), Q_PE, Q_PB, fun h0_ => absurd ((hon 25 (by kernel_rfl)).symm.trans h0_) (by decide), Q_GF1, Q_GT0, fun h0_ => absurd ((hoff 27 (by kernel_rfl)).symm.trans h0_) (by decide), fun h0_ => absurd ((hon 14 (by kernel_rfl)).symm.trans h0_) (by decide), fun _ h1_ => absurd ((hon 23 (by kernel_rfl)).symm.trans h1_) (by decide), Q_RW2, fun _ h1_ => absurd ((hon 14 (by kernel_rfl)).symm.trans h1_) (by decide), fun _ h1_ => absurd ((hon 23 (by kernel_rfl)).symm.trans h1_) (by decide), Q_BL, Q_FR⟩
        refine steps_cons ?_ ?_
        · rintro b a w' ⟨z1, z2, z3, z4, ha, Q_PE, Q_PB, Q_GF0, Q_GF1, Q_GT0, Q_GT1, Q_RW0, Q_RW1, Q_RW2, Q_L1, Q_L3, Q_BL, Q_FR⟩ hb_ hon hoff
          refine ⟨_, rfl, fun K hK => ?_⟩
          have e68 : a.tmps[68]? = some (.pointer (some ⟨gT, sa, none⟩)) := by rw [ha]; exact putSel_on (e := (26, 68, .pointer (some ⟨gT, sa, none⟩))) 15 rfl rfl (hon 26 (by kernel_rfl)) rfl
          have e66 : a.tmps[66]? = some (z4) := by rw [ha]; exact putSel_on (e := (23, 66, z4)) 13 rfl rfl (hon 23 (by kernel_rfl)) rfl
          replace ha := Aside0.mk ha
          have PE := Aside0.mk Q_PE
          have PB := Aside0.mk Q_PB
          have GF1 := Aside0.mk (Q_GF1 (hon 25 (by kernel_rfl)))
          have GT0 := Aside0.mk (Q_GT0 hb_)
          have RW2 := Aside0.mk (Q_RW2 (hon 23 (by kernel_rfl)))
          have BL := Aside0.mk Q_BL
          have FR := Aside0.mk Q_FR
          have hs_ : w'.cell? ⟨gT, sa, none⟩ = some (vat VT sa) := tab_cell GT0.out sa haV
          have hf_ := blk_frozen GT0.out sa
          obtain ⟨A5_, c5_, hz5_⟩ := H.out.slT RW2.out
          have e66' := e66
          rw [hz5_] at e66'
          clear e66
          refine skip_ (w1 := w'.setCell ⟨gT, sa, none⟩ z4) (by rfl) rfl ?_ ?_
          · rw [hz5_]
            clear hz5_
            go_simp
          refine hK.out _ _ ⟨z1, z2, z3, z4, (by rw [ha.out]; exact putSel_none (v := undef) rfl), blk_far PE.out (ne_ty PE.out GT0.out rfl) _, blk_far PB.out (ne_ty PB.out GT0.out rfl) _, fun h0_ => absurd ((hon 25 (by kernel_rfl)).symm.trans h0_) (by decide), fun _ => blk_far GF1.out hgs.out.2.2.1 _, fun h0_ => absurd ((up_self b 27).symm.trans h0_) (by decide), fun _ => tab_set GT0.out sa z4, fun h0_ => absurd ((hon 14 (by kernel_rfl)).symm.trans h0_) (by decide), fun _ h1_ => absurd ((hon 23 (by kernel_rfl)).symm.trans h1_) (by decide), fun _ => RW2.out.set_ GT0.out (by decide) _ _, fun _ h1_ => absurd ((hon 14 (by kernel_rfl)).symm.trans h1_) (by decide), fun _ h1_ => absurd ((hon 23 (by kernel_rfl)).symm.trans h1_) (by decide), below_set BL.out hgs.out.2.1, Kept.setCell FR.out (.inl (.inr (.inr (.inr rfl)))) _⟩
        exact steps_nil
      · rintro b a w' hall ⟨z1, z2, z3, z4, ha, Q_PE, Q_PB, Q_GF0, Q_GF1, Q_GT0, Q_GT1, Q_RW0, Q_RW1, Q_RW2, Q_L1, Q_L3, Q_BL, Q_FR⟩
        clear BL FR GF0 GT0 PB PE RW0
        have hb2_ := hall 2 (by kernel_rfl)
        have hb5_ := hall 5 (by kernel_rfl)
        have hb8_ := hall 8 (by kernel_rfl)
        have hb9_ := hall 9 (by kernel_rfl)
        have hb10_ := hall 10 (by kernel_rfl)
        have hb12_ := hall 12 (by kernel_rfl)
        have hb13_ := hall 13 (by kernel_rfl)
        have hb14_ := hall 14 (by kernel_rfl)
        have hb17_ := hall 17 (by kernel_rfl)
        have hb18_ := hall 18 (by kernel_rfl)
        have hb19_ := hall 19 (by kernel_rfl)
        have hb21_ := hall 21 (by kernel_rfl)
        have hb22_ := hall 22 (by kernel_rfl)
        have hb23_ := hall 23 (by kernel_rfl)
        have hb24_ := hall 24 (by kernel_rfl)
        have hb25_ := hall 25 (by kernel_rfl)
        have hb26_ := hall 26 (by kernel_rfl)
        have hb27_ := hall 27 (by kernel_rfl)
        subst ha
        simp only [putSel, hb2_, hb5_, hb8_, hb9_, hb10_, hb12_, hb13_, hb14_, hb17_, hb18_, hb19_, hb21_, hb22_, hb23_, hb24_, hb25_, hb26_, hb27_, if_true, Act.put, List.setIfInBounds_toArray, List.set_cons_zero, List.set_cons_succ]
        have PE := Aside0.mk Q_PE
        clear Q_PE
        have PB := Aside0.mk Q_PB
        clear Q_PB
        clear Q_GF0
        have GF1 := Aside0.mk (Q_GF1 hb25_)
        clear Q_GF1
        clear Q_GT0
        have GT1 := Aside0.mk (Q_GT1 hb27_)
        clear Q_GT1
        clear Q_RW0
        clear Q_RW1
        have RW2 := Aside0.mk (Q_RW2 hb23_)
        clear Q_RW2
        clear Q_L1
        clear Q_L3
        have BL := Aside0.mk Q_BL
        clear Q_BL
        have FR := Aside0.mk Q_FR
        clear Q_FR
        clear hall hb2_ hb5_ hb8_ hb9_ hb10_ hb12_ hb13_ hb14_ hb17_ hb18_ hb19_ hb21_ hb22_ hb23_ hb24_ hb25_ hb26_ hb27_
        have hTn : Aside0 (Tb w w' gF gT l.length (F.set sb (lat F sb ++ [(sa : Int)])) (T.set sa (lat T sa ++ [(sb : Int)])) (pb l.length (some ad) es.length c (bt) (fv 15 #[PP bq]) (fv 14 #[]) (fv 26 #[]) (fv 27 #[PP bp]))) := ⟨H.out.next GF1.out GT1.out RW2.out hgs.out.1 hgs.out.2.1 hgs.out.2.2.1 BL.out PB.out⟩
        rw [← hFs.out, ← hTs.out] at hTn
        clear PE PB GF1 GT1 RW2 BL FR H hgs hlo1 hlo2 hlF hlT hFs hTs
        go_wp2_with fail
        go_roundw
        case rel => exact ⟨k + 1, by omega, by go_num, hTn⟩
        case measure => simp [intOf]; omega
    · obtain rfl : k = es.length := by omega
      rw [List.take_length] at hT1
      clear hlt
      obtain ⟨wt, rfl⟩ : ∃ wt : World, wt = wr := ⟨_, rfl⟩
      have p0 : wt.cell? ⟨w.heap.size, 0, none⟩ = some (.int .i64 (l.length : Int)) := (blk_cell hT1.out.pb 0).trans rfl
      go_upto_region 10 with (fail)
      have hS1 := Aside0.mk (blk_new wt (zero l.length))
      have hX1 := Aside0.mk (blk_alloc hT1.out.pb (zero l.length))
      have hB1 := Aside0.mk (below_step hT1.out.bel (below_alloc (Below.refl wt.heap.size wt) (zero l.length)))
      have hQ1 : Aside0 (Below wt.heap.size wt (wt.alloc (zero l.length))) := ⟨below_alloc (Below.refl _ _) _⟩
      have hz1 : Aside0 ((wt.alloc (zero l.length)).heap.size = wt.heap.size + 1) := ⟨by simp⟩
      generalize wt.alloc (zero l.length) = w1 at *
      clear p0
      go_cut [4, 5] (fun u4 u5 wx => ∃ gI gO : Nat, u4 = .slice (some ⟨gI, 0, none⟩) l.length l.length ∧ u5 = .slice (some ⟨gO, 0, none⟩) l.length l.length ∧ Aside0 (Mk2 w1 wx l.length gI gO))
      case first =>
        refine start_ (n := 8) (S := fun w' => w'.cell? ⟨w.heap.size, 0, none⟩ = some (.int .i64 (l.length : Int))) (ds := []) #[false, false, false, false, false, false, false, false] (by kernel_rfl) rfl rfl ((blk_cell hX1.out 0).trans rfl) (fun hHeld => ?_)
        replace hX1 : Aside0 (w1.drew.heap[w.heap.size]? = _) := ⟨hX1.out⟩
        replace hB1 : Aside0 (Below w.heap.size w w1.drew) := ⟨below_drew hB1.out⟩
        have hb12 : Aside0 (Below w1.heap.size w1 w1.drew) := ⟨below_drew (Below.refl _ _)⟩
        generalize w1.drew = w2 at *
        refine pure_ (i := 0) (N := some 73) (v := ?_) (a' := ?_) #[true, false, false, false, false, false, false, false] rfl rfl (by kernel_rfl) (fun _ _ _ h => h) (Or.inl ⟨by rfl, ?_⟩) ?_ ?_
        rotate_left
        · intro w'
          go_simp
          try with_reducible rfl
        rotate_left
        · simp only [Act.put, List.setIfInBounds_toArray, List.set_cons_zero, List.set_cons_succ]
          rfl
        refine pure_ (i := 3) (N := some 76) (v := ?_) (a' := ?_) #[true, false, false, true, false, false, false, false] rfl rfl (by kernel_rfl) (fun _ _ _ h => h) (Or.inl ⟨by rfl, ?_⟩) ?_ ?_
        rotate_left
        · intro w'
          go_simp
          try with_reducible rfl
        rotate_left
        · simp only [Act.put, List.setIfInBounds_toArray, List.set_cons_zero, List.set_cons_succ]
          rfl
        refine take_ (i := 1) (N := some 74) (v := ?_) (a' := ?_) #[true, true, false, true, false, false, false, false] rfl rfl (by kernel_rfl) (fun _ _ _ h => h) (Or.inl ⟨by rfl, ?_⟩) hHeld ?_ ?_
        rotate_left
        · intro w' s0
          go_simp
          try with_reducible rfl
        rotate_left
        · simp only [Act.put, List.setIfInBounds_toArray, List.set_cons_zero, List.set_cons_succ]
          rfl
        refine take_ (i := 4) (N := some 77) (v := ?_) (a' := ?_) #[true, true, false, true, true, false, false, false] rfl rfl (by kernel_rfl) (fun _ _ _ h => h) (Or.inl ⟨by rfl, ?_⟩) hHeld ?_ ?_
        rotate_left
        · intro w' s0
          go_simp
          try with_reducible rfl
        rotate_left
        · simp only [Act.put, List.setIfInBounds_toArray, List.set_cons_zero, List.set_cons_succ]
          rfl
        refine two_ (i := 2) (j := 5) (Ni := some 75) (Nj := some 78) #[true, true, true, true, true, false, false, false] #[true, true, false, true, true, true, false, false] rfl rfl rfl rfl (by kernel_rfl) (by decide) (by decide) (fun K hK => ?_) (fun K hK => ?_)
        · refine value_ (w1 := w2.alloc (zero l.length)) (v := .slice (some ⟨w2.heap.size, 0, none⟩) l.length l.length) (by rfl) rfl (by go_simp) ?_
          refine hK.out _ _ (by first | exact (blk_cell (blk_alloc hX1.out _) 0).trans rfl) (fun hHeld => ?_)
          clear hK K
          refine norm_ (a' := ?_) ?_ ?_
          rotate_left
          · simp only [Act.put, List.setIfInBounds_toArray, List.set_cons_zero, List.set_cons_succ]
            rfl
          refine pure_ (i := 6) (N := some 4) (v := ?_) (a' := ?_) #[true, true, true, true, true, false, true, false] rfl rfl (by kernel_rfl) (fun _ _ _ h => h) (Or.inl ⟨by rfl, ?_⟩) ?_ ?_
          rotate_left
          · intro w'
            go_simp
            try with_reducible rfl
          rotate_left
          · simp only [Act.put, List.setIfInBounds_toArray, List.set_cons_zero, List.set_cons_succ]
            rfl
          refine one_ (i := 5) (N := some 78) #[true, true, true, true, true, true, true, false] rfl rfl (by kernel_rfl) (by decide) (fun K hK => ?_)
          refine value_ (w1 := (w2.alloc (zero l.length)).alloc (zero l.length)) (v := .slice (some ⟨w2.heap.size + 1, 0, none⟩) l.length l.length) (by rfl) rfl (by go_simp) ?_
          refine hK.out _ _ (by first | exact (blk_cell (blk_alloc (blk_alloc hX1.out _) _) 0).trans rfl) (fun hHeld => ?_)
          clear hK K
          refine norm_ (a' := ?_) ?_ ?_
          rotate_left
          · simp only [Act.put, List.setIfInBounds_toArray, List.set_cons_zero, List.set_cons_succ]
            rfl
          refine pure_ (i := 7) (N := some 5) (v := ?_) (a' := ?_) #[true, true, true, true, true, true, true, true] rfl rfl (by kernel_rfl) (fun _ _ _ h => h) (Or.inl ⟨by rfl, ?_⟩) ?_ ?_
          rotate_left
          · intro w'
            go_simp
            try with_reducible rfl
          rotate_left
          · simp only [Act.put, List.setIfInBounds_toArray, List.set_cons_zero, List.set_cons_succ]
            rfl
          refine done_ (by kernel_rfl) ?_
          go_wp2_with fail
          go_meet
          exact ⟨_, _, rfl, rfl, ⟨Mk2.mk' hb12.out⟩⟩
        · refine value_ (w1 := w2.alloc (zero l.length)) (v := .slice (some ⟨w2.heap.size, 0, none⟩) l.length l.length) (by rfl) rfl (by go_simp) ?_
          refine hK.out _ _ (by first | exact (blk_cell (blk_alloc hX1.out _) 0).trans rfl) (fun hHeld => ?_)
          clear hK K
          refine norm_ (a' := ?_) ?_ ?_
          rotate_left
          · simp only [Act.put, List.setIfInBounds_toArray, List.set_cons_zero, List.set_cons_succ]
            rfl
          refine one_ (i := 2) (N := some 75) #[true, true, true, true, true, true, false, false] rfl rfl (by kernel_rfl) (by decide) (fun K hK => ?_)
          refine value_ (w1 := (w2.alloc (zero l.length)).alloc (zero l.length)) (v := .slice (some ⟨w2.heap.size + 1, 0, none⟩) l.length l.length) (by rfl) rfl (by go_simp) ?_
          refine hK.out _ _ (by first | exact (blk_cell (blk_alloc (blk_alloc hX1.out _) _) 0).trans rfl) (fun hHeld => ?_)
          clear hK K
          refine norm_ (a' := ?_) ?_ ?_
          rotate_left
          · simp only [Act.put, List.setIfInBounds_toArray, List.set_cons_zero, List.set_cons_succ]
            rfl
          refine pure_ (i := 6) (N := some 4) (v := ?_) (a' := ?_) #[true, true, true, true, true, true, true, false] rfl rfl (by kernel_rfl) (fun _ _ _ h => h) (Or.inl ⟨by rfl, ?_⟩) ?_ ?_
          rotate_left
          · intro w'
            go_simp
            try with_reducible rfl
          rotate_left
          · simp only [Act.put, List.setIfInBounds_toArray, List.set_cons_zero, List.set_cons_succ]
            rfl
          refine pure_ (i := 7) (N := some 5) (v := ?_) (a' := ?_) #[true, true, true, true, true, true, true, true] rfl rfl (by kernel_rfl) (fun _ _ _ h => h) (Or.inl ⟨by rfl, ?_⟩) ?_ ?_
          rotate_left
          · intro w'
            go_simp
            try with_reducible rfl
          rotate_left
          · simp only [Act.put, List.setIfInBounds_toArray, List.set_cons_zero, List.set_cons_succ]
            rfl
          refine done_ (by kernel_rfl) ?_
          go_wp2_with fail
          go_meet
          exact ⟨_, _, rfl, rfl, ⟨(Mk2.mk' hb12.out).swap⟩⟩
      case rest =>
      obtain ⟨gI, gO, rfl, rfl, hM⟩ := hcut
      have p0 : wc.cell? ⟨w.heap.size, 0, none⟩ = some (.int .i64 (l.length : Int)) := (blk_cell (blk_below hX1.out hM.out.bel) 0).trans rfl
      have hlw : w.heap.size < wc.heap.size := blk_lt (blk_below hX1.out hM.out.bel)
      go_wp2_with fail
      have hSv : Aside0 (Sv w ((wc.alloc (.cells (zA l.length) 3)).alloc (.cells (bs (List.replicate l.length false)) 4)) l.length ⟨gF, gT, wt.heap.size, gI, gO, wc.heap.size + 1⟩ (rowsF (nE es) l.length) (rowsT (nE es) l.length) (pb l.length A es.length c (bt) (fv 15 #[PP bq]) (fv 14 #[]) (fv 26 #[]) (fv 27 #[PP bp])) (zeros l.length) (zeros l.length) (zeros l.length) (List.replicate l.length false) (.slice (some ⟨wc.heap.size, 0, none⟩) 0 l.length) (ints (List.range 0))) := by
        have q1 := hM.out.l1
        have q2 := hM.out.l2
        have q3 := hM.out.bel.size
        have q4 := hz1.out
        have b2 : Below wc.heap.size wc ((wc.alloc (.cells (zA l.length) 3)).alloc (.cells (bs (List.replicate l.length false)) 4)) := below_alloc (below_alloc (Below.refl _ _) _) _
        have b3 := below_step (below_step hQ1.out hM.out.bel) b2
        have e5 := blk_new (wc.alloc (.cells (zA l.length) 3)) (.cells (bs (List.replicate l.length false)) 4)
        rw [show (wc.alloc (.cells (zA l.length) 3)).heap.size = wc.heap.size + 1 by simp] at e5
        exact ⟨Sv.begin hT1.out ⟨_, rfl⟩ b3 (blk_alloc (blk_alloc (blk_below hS1.out hM.out.bel) _) _) (blk_alloc (blk_alloc hM.out.a _) _) (blk_alloc (blk_alloc hM.out.b _) _) e5
          (by omega) (by omega) hM.out.ne (by omega) (by omega) (by omega) (by omega) (by simp [zeros]) (by simp [zeros]) (by simp [zeros]) (by simp)
          (Kd.R_alloc (row_made wc w.heap.size l.length (by have := hB1.out.size; omega) (by omega)) _) (fun k hk => by simp [Value.ownBlock] at hk; omega)⟩
      clear hS1 hX1 hB1 hQ1 hz1 hM hT1 p0
      generalize (wc.alloc (.cells (zA l.length) 3)).alloc (.cells (bs (List.replicate l.length false)) 4) = wd at *
      generalize wc.heap.size + 1 = gW at *
      generalize (Value.slice (some ⟨wc.heap.size, 0, none⟩) 0 l.length) = vr0 at *
      generalize wt.heap.size = gS at *
      have hst : ∀ W' n, n < l.length → Below w.heap.size w W' → Aside0 (Calls Try.prog 15 #[.int .i64 (n : Int), PP bq] W' fun e w' => e = .returned (uv ((must l (nE es)).start n)) ∧ W' = w') := fun W' n hn b => ⟨startNM ⟨hCM.out.below b⟩ n hn⟩
      have hJn : ∀ x y W', Aside0 (Calls Try.prog 14 #[uv x, uv y] W' fun e w' => e = .returned (uv ((must l (nE es)).join x y)) ∧ W' = w') := fun x y W' => ⟨and_ x y W'⟩
      have hFl : ∀ W' n v, n < l.length → Below w.heap.size w W' → Aside0 (Calls Try.prog 27 #[.int .i64 (n : Int), uv v, PP bp] W' (RetD (uv ((must l (nE es)).flow n v)) W')) := fun W' n v hn b => ⟨flow_ ⟨hC.out.below b⟩ n hn v⟩
      generalize hP : must l (nE es) = Q at *
      replace hP := Aside0.mk hP
      have hb_ : ∀ n : Nat, n < l.length → (n : Int) < (l.length : Int) := fun n h => by omega
      go_loopw [12, 87] (fun u12 i wr => ∃ (n : Nat) (S I O : List V) (B : List Bool), i = .int .i64 n ∧ n ≤ l.length ∧ Aside0 (Sv w wr l.length ⟨gF, gT, gS, gI, gO, gW⟩ (rowsF (nE es) l.length) (rowsT (nE es) l.length) (pb l.length A es.length c (bt) (fv 15 #[PP bq]) (fv 14 #[]) (fv 26 #[]) (fv 27 #[PP bp])) S I O B u12 (ints (List.range n))) ∧ Aside0 (∀ j, j < n → S.getD j bt = Q.start j ∧ I.getD j bt = bt ∧ O.getD j bt = bt ∧ B.getD j false = true)) (fun _ i _ => l.length - (intOf i).toNat)
      case atStart => exact ⟨0, _, _, _, _, rfl, by omega, hSv, ⟨fun j hj => by omega⟩⟩
      case round =>
        obtain ⟨n, S, I, O, B, rfl, hn, hS2, hJ⟩ := hrel
        clear hSv
        by_cases hlt : n < l.length
        · skip
          have q0 : (0 : Int) ≤ (n : Int) := by omega
          have q1 : (n : Int) < (l.length : Int) := by omega
          have ap1 := add_plain gS n
          have ap2 := add_plain gI n
          have ap3 := add_plain gO n
          have ap4 := add_plain gW n
          go_upto_region 16 with (fail)
          have hS3 : Aside0 (Sv w wr.drew l.length ⟨gF, gT, gS, gI, gO, gW⟩ (rowsF (nE es) l.length) (rowsT (nE es) l.length) (pb l.length A es.length c (bt) (fv 15 #[PP bq]) (fv 14 #[]) (fv 26 #[]) (fv 27 #[PP bp])) S I O B u12 (ints (List.range n))) := ⟨hS2.out.below (below_drew (Below.refl _ _))⟩
          refine start_ (n := 20) (S := fun w' => w'.cell? ⟨w.heap.size, 2, none⟩ = some (uv bt) ∧ w'.cell? ⟨w.heap.size, 3, none⟩ = some (fv 15 #[PP bq])) (ds := [19]) #[false, false, false, false, false, false, false, false, false, false, false, false, false, false, false, false, false, false, false, false] (by kernel_rfl) rfl rfl (⟨(blk_cell hS3.out.pr_ 2).trans rfl, (blk_cell hS3.out.pr_ 3).trans rfl⟩) (fun hHeld => ?_)
          generalize wr.drew = wz at hS3 hHeld ⊢
          refine pure_ (i := 0) (N := some 90) (v := ?_) (a' := ?_) #[true, false, false, false, false, false, false, false, false, false, false, false, false, false, false, false, false, false, false, false] rfl rfl (by kernel_rfl) (fun _ _ _ h => h) (Or.inl ⟨by rfl, ?_⟩) ?_ ?_
          rotate_left
          · intro w'
            go_simp
            try with_reducible rfl
          rotate_left
          · simp only [Act.put, List.setIfInBounds_toArray, List.set_cons_zero, List.set_cons_succ]
            rfl
          refine pure_ (i := 1) (N := some 91) (v := ?_) (a' := ?_) #[true, true, false, false, false, false, false, false, false, false, false, false, false, false, false, false, false, false, false, false] rfl rfl (by kernel_rfl) (fun _ _ _ h => h) (Or.inl ⟨by rfl, ?_⟩) ?_ ?_
          rotate_left
          · intro w'
            go_simp
            try with_reducible rfl
          rotate_left
          · simp only [Act.put, List.setIfInBounds_toArray, List.set_cons_zero, List.set_cons_succ]
            rfl
          refine pure_ (i := 2) (N := some 92) (v := ?_) (a' := ?_) #[true, true, true, false, false, false, false, false, false, false, false, false, false, false, false, false, false, false, false, false] rfl rfl (by kernel_rfl) (fun _ _ _ h => h) (Or.inl ⟨by rfl, ?_⟩) ?_ ?_
          rotate_left
          · intro w'
            go_simp
            try with_reducible rfl
          rotate_left
          · simp only [Act.put, List.setIfInBounds_toArray, List.set_cons_zero, List.set_cons_succ]
            rfl
          refine pure_ (i := 3) (N := some 93) (v := ?_) (a' := ?_) #[true, true, true, true, false, false, false, false, false, false, false, false, false, false, false, false, false, false, false, false] rfl rfl (by kernel_rfl) (fun _ _ _ h => h) (Or.inl ⟨by rfl, ?_⟩) ?_ ?_
          rotate_left
          · intro w'
            go_simp
            try with_reducible rfl
          rotate_left
          · simp only [Act.put, List.setIfInBounds_toArray, List.set_cons_zero, List.set_cons_succ]
            rfl
          refine pure_ (i := 4) (N := some 94) (v := ?_) (a' := ?_) #[true, true, true, true, true, false, false, false, false, false, false, false, false, false, false, false, false, false, false, false] rfl rfl (by kernel_rfl) (fun _ _ _ h => h) (Or.inl ⟨by rfl, ?_⟩) ?_ ?_
          rotate_left
          · intro w'
            go_simp
            try with_reducible rfl
          rotate_left
          · simp only [Act.put, List.setIfInBounds_toArray, List.set_cons_zero, List.set_cons_succ]
            rfl
          refine pure_ (i := 5) (N := some 95) (v := ?_) (a' := ?_) #[true, true, true, true, true, true, false, false, false, false, false, false, false, false, false, false, false, false, false, false] rfl rfl (by kernel_rfl) (fun _ _ _ h => h) (Or.inl ⟨by rfl, ?_⟩) ?_ ?_
          rotate_left
          · intro w'
            go_simp
            try with_reducible rfl
          rotate_left
          · simp only [Act.put, List.setIfInBounds_toArray, List.set_cons_zero, List.set_cons_succ]
            rfl
          refine pure_ (i := 6) (N := some 96) (v := ?_) (a' := ?_) #[true, true, true, true, true, true, true, false, false, false, false, false, false, false, false, false, false, false, false, false] rfl rfl (by kernel_rfl) (fun _ _ _ h => h) (Or.inl ⟨by rfl, ?_⟩) ?_ ?_
          rotate_left
          · intro w'
            go_simp
            try with_reducible rfl
          rotate_left
          · simp only [Act.put, List.setIfInBounds_toArray, List.set_cons_zero, List.set_cons_succ]
            rfl
          refine pure_ (i := 8) (N := some 98) (v := ?_) (a' := ?_) #[true, true, true, true, true, true, true, false, true, false, false, false, false, false, false, false, false, false, false, false] rfl rfl (by kernel_rfl) (fun _ _ _ h => h) (Or.inl ⟨by rfl, ?_⟩) ?_ ?_
          rotate_left
          · intro w'
            go_simp
            try with_reducible rfl
          rotate_left
          · simp only [Act.put, List.setIfInBounds_toArray, List.set_cons_zero, List.set_cons_succ]
            rfl
          refine pure_ (i := 10) (N := some 100) (v := ?_) (a' := ?_) #[true, true, true, true, true, true, true, false, true, false, true, false, false, false, false, false, false, false, false, false] rfl rfl (by kernel_rfl) (fun _ _ _ h => h) (Or.inl ⟨by rfl, ?_⟩) ?_ ?_
          rotate_left
          · intro w'
            go_simp
            try with_reducible rfl
          rotate_left
          · simp only [Act.put, List.setIfInBounds_toArray, List.set_cons_zero, List.set_cons_succ]
            rfl
          refine pure_ (i := 12) (N := some 102) (v := ?_) (a' := ?_) #[true, true, true, true, true, true, true, false, true, false, true, false, true, false, false, false, false, false, false, false] rfl rfl (by kernel_rfl) (fun _ _ _ h => h) (Or.inl ⟨by rfl, ?_⟩) ?_ ?_
          rotate_left
          · intro w'
            go_simp
            try with_reducible rfl
          rotate_left
          · simp only [Act.put, List.setIfInBounds_toArray, List.set_cons_zero, List.set_cons_succ]
            rfl
          refine take_ (i := 7) (N := some 97) (v := ?_) (a' := ?_) #[true, true, true, true, true, true, true, true, true, false, true, false, true, false, false, false, false, false, false, false] rfl rfl (by kernel_rfl) (fun _ _ _ h => h) (Or.inl ⟨by rfl, ?_⟩) hHeld ?_ ?_
          rotate_left
          · intro w' s0
            obtain ⟨s2_, s3_⟩ := s0
            go_simp
            try with_reducible rfl
          rotate_left
          · simp only [Act.put, List.setIfInBounds_toArray, List.set_cons_zero, List.set_cons_succ]
            rfl
          refine take_ (i := 11) (N := some 101) (v := ?_) (a' := ?_) #[true, true, true, true, true, true, true, true, true, false, true, true, true, false, false, false, false, false, false, false] rfl rfl (by kernel_rfl) (fun _ _ _ h => h) (Or.inl ⟨by rfl, ?_⟩) hHeld ?_ ?_
          rotate_left
          · intro w' s0
            obtain ⟨s2_, s3_⟩ := s0
            go_simp
            try with_reducible rfl
          rotate_left
          · simp only [Act.put, List.setIfInBounds_toArray, List.set_cons_zero, List.set_cons_succ]
            rfl
          refine take_ (i := 13) (N := some 103) (v := ?_) (a' := ?_) #[true, true, true, true, true, true, true, true, true, false, true, true, true, true, false, false, false, false, false, false] rfl rfl (by kernel_rfl) (fun _ _ _ h => h) (Or.inl ⟨by rfl, ?_⟩) hHeld ?_ ?_
          rotate_left
          · intro w' s0
            obtain ⟨s2_, s3_⟩ := s0
            go_simp
            try with_reducible rfl
          rotate_left
          · simp only [Act.put, List.setIfInBounds_toArray, List.set_cons_zero, List.set_cons_succ]
            rfl
          refine one_ (i := 9) (N := some 99) #[true, true, true, true, true, true, true, true, true, true, true, true, true, true, false, false, false, false, false, false] rfl rfl (by kernel_rfl) (by decide) (fun K hK => ?_)
          refine call_ 15 #[.int .i64 (n : Int), PP bq] (by rfl) rfl (by go_simp) ?_
          refine (hst _ n hlt hS3.out.bel).out.mono ?_
          rintro e w' ⟨rfl, rfl⟩
          refine ⟨_, rfl, ?_⟩
          refine hK.out _ _ hHeld (fun hHeld => ?_)
          clear hK K
          refine norm_ (a' := ?_) ?_ ?_
          rotate_left
          · simp only [Act.put, List.setIfInBounds_toArray, List.set_cons_zero, List.set_cons_succ]
            rfl
          refine pure_ (i := 14) (N := some 104) (v := ?_) (a' := ?_) #[true, true, true, true, true, true, true, true, true, true, true, true, true, true, true, false, false, false, false, false] rfl rfl (by kernel_rfl) (fun _ _ _ h => h) (Or.inl ⟨by rfl, ?_⟩) ?_ ?_
          rotate_left
          · intro w'
            go_simp
            try with_reducible rfl
          rotate_left
          · simp only [Act.put, List.setIfInBounds_toArray, List.set_cons_zero, List.set_cons_succ]
            rfl
          have hS4 := Aside0.mk (hS3.out.setS n (Q.start n))
          refine one_ (i := 15) (N := none) #[true, true, true, true, true, true, true, true, true, true, true, true, true, true, true, true, false, false, false, false] rfl rfl (by kernel_rfl) (by decide) (fun K hK => ?_)
          have hc_ : wz.cell? ⟨gS, n, none⟩ = some (uv (S.getD n 0)) := us_cell hS3.out.bS n (by rw [hS3.out.lS]; exact hlt)
          have hf_ : wz.frozen? ⟨gS, n, none⟩ = false := blk_frozen hS3.out.bS n
          refine skip_ (w1 := (wz.setCell ⟨gS, n, none⟩ (uv (Q.start n)))) (by rfl) rfl ?_ ?_
          · go_simp
          refine hK.out _ _ ⟨(blk_cell hS4.out.pr_ 2).trans rfl, (blk_cell hS4.out.pr_ 3).trans rfl⟩ (fun hHeld => ?_)
          clear hK K hc_ hf_
          refine pure_ (i := 16) (N := some 105) (v := ?_) (a' := ?_) #[true, true, true, true, true, true, true, true, true, true, true, true, true, true, true, true, true, false, false, false] rfl rfl (by kernel_rfl) (fun _ _ _ h => h) (Or.inl ⟨by rfl, ?_⟩) ?_ ?_
          rotate_left
          · intro w'
            go_simp
            try with_reducible rfl
          rotate_left
          · simp only [Act.put, List.setIfInBounds_toArray, List.set_cons_zero, List.set_cons_succ]
            rfl
          have hS5 := Aside0.mk (hS4.out.setI n (bt))
          refine one_ (i := 17) (N := none) #[true, true, true, true, true, true, true, true, true, true, true, true, true, true, true, true, true, true, false, false] rfl rfl (by kernel_rfl) (by decide) (fun K hK => ?_)
          have hc_ : (wz.setCell ⟨gS, n, none⟩ (uv (Q.start n))).cell? ⟨gI, n, none⟩ = some (uv (I.getD n 0)) := us_cell hS4.out.bI n (by rw [hS4.out.lI]; exact hlt)
          have hf_ : (wz.setCell ⟨gS, n, none⟩ (uv (Q.start n))).frozen? ⟨gI, n, none⟩ = false := blk_frozen hS4.out.bI n
          refine skip_ (w1 := ((wz.setCell ⟨gS, n, none⟩ (uv (Q.start n))).setCell ⟨gI, n, none⟩ (uv (bt)))) (by rfl) rfl ?_ ?_
          · go_simp
          refine hK.out _ _ ⟨(blk_cell hS5.out.pr_ 2).trans rfl, (blk_cell hS5.out.pr_ 3).trans rfl⟩ (fun hHeld => ?_)
          clear hK K hc_ hf_
          refine pure_ (i := 18) (N := some 106) (v := ?_) (a' := ?_) #[true, true, true, true, true, true, true, true, true, true, true, true, true, true, true, true, true, true, true, false] rfl rfl (by kernel_rfl) (fun _ _ _ h => h) (Or.inl ⟨by rfl, ?_⟩) ?_ ?_
          rotate_left
          · intro w'
            go_simp
            try with_reducible rfl
          rotate_left
          · simp only [Act.put, List.setIfInBounds_toArray, List.set_cons_zero, List.set_cons_succ]
            rfl
          refine last_ (i := 19) (N := none) #[true, true, true, true, true, true, true, true, true, true, true, true, true, true, true, true, true, true, true, true] rfl rfl (by kernel_rfl) (by decide) (fun K hK => ?_)
          have hc_ : ((wz.setCell ⟨gS, n, none⟩ (uv (Q.start n))).setCell ⟨gI, n, none⟩ (uv (bt))).cell? ⟨gO, n, none⟩ = some (uv (O.getD n 0)) := us_cell hS5.out.bO n (by rw [hS5.out.lO]; exact hlt)
          have hf_ : ((wz.setCell ⟨gS, n, none⟩ (uv (Q.start n))).setCell ⟨gI, n, none⟩ (uv (bt))).frozen? ⟨gO, n, none⟩ = false := blk_frozen hS5.out.bO n
          refine skip_ (w1 := (((wz.setCell ⟨gS, n, none⟩ (uv (Q.start n))).setCell ⟨gI, n, none⟩ (uv (bt))).setCell ⟨gO, n, none⟩ (uv (bt)))) (by rfl) rfl ?_ ?_
          · go_simp
          refine hK.out _ _ ?_
          clear hK K hc_ hf_
          refine done_ (by kernel_rfl) ?_
          have hS6 := Aside0.mk (hS5.out.setO n bt)
          have hJ6 : Aside0 (∀ j, j < n + 1 → (S.set n (Q.start n)).getD j bt = Q.start j ∧ (I.set n bt).getD j bt = bt ∧ (O.set n bt).getD j bt = bt ∧ (j < n → B.getD j false = true)) := ⟨fun j hj => by
            by_cases e : n = j
            · subst e
              exact ⟨getD_set_eq _ _ _ _ (by rw [hS2.out.lS]; exact hlt), getD_set_eq _ _ _ _ (by rw [hS2.out.lI]; exact hlt), getD_set_eq _ _ _ _ (by rw [hS2.out.lO]; exact hlt), fun h => by omega⟩
            · rw [getD_set_ne _ _ _ _ _ e, getD_set_ne _ _ _ _ _ e, getD_set_ne _ _ _ _ _ e]
              have := hJ.out j (by omega)
              exact ⟨this.1, this.2.1, this.2.2.1, fun _ => this.2.2.2⟩⟩
          clear hS5 hS4 hS3
          generalize ((wz.setCell ⟨gS, n, none⟩ (uv (Q.start n))).setCell ⟨gI, n, none⟩ (uv bt)).setCell ⟨gO, n, none⟩ (uv bt) = wy at *
          go_wp2_with (at_builtin; (refine Kd.R_append (Kd.int .i64) (w0 := w) w.heap.size rfl (.tmp 107) (.tmp 109) 55 3 (.int .i64 0) 8 rfl Try.underlying55 info3 rfl (by decide) (by omega) u12 (ints (List.range n)) (n : Int) [.int .i64 n] (fun _ => True) (fun _ => False) rfl rfl ?aP (fun _ hk => hk.elim) ?aF ?aO ?aB ?aS ?aL ?_; (case aP => exact rfl); (case aB => exact hS6.out.bel); (case aF => exact fun _ _ => trivial); (case aO => exact hS6.out.rowR); (case aS => exact below_size hS6.out.bel); (case aL => rw [ints_len, List.length_range]; omega); intro v1 w1 ho hb hg hat; have hS7 := Aside0.mk (hS6.out.push hg ho hat hb); have hcW : w1.cell? ⟨gW, n, none⟩ = some (.bool (B.getD n false)) := bs_cell hS7.out.bW n (by rw [hS7.out.lW]; exact hlt); have hfW : w1.frozen? ⟨gW, n, none⟩ = false := blk_frozen hS7.out.bW n; clear ho hb hg hat))
          have hS8 := Aside0.mk (hS7.out.setW n true)
          rw [show ints (List.range n) ++ [(n : Int)] = ints (List.range (n + 1)) by rw [List.range_succ]; simp [ints]] at hS8
          go_roundw
          case rel => exact ⟨n + 1, _, _, _, _, by go_num, by omega, hS8, ⟨fun j hj => by
            have h6 := hJ6.out j hj
            refine ⟨h6.1, h6.2.1, h6.2.2.1, ?_⟩
            by_cases e : n = j
            · subst e; exact getD_set_eq _ _ _ _ (by rw [hS2.out.lW]; exact hlt)
            · rw [getD_set_ne _ _ _ _ _ e]; exact h6.2.2.2 (by omega)⟩⟩
          case measure => simp [intOf]; omega
        · obtain rfl : n = l.length := by omega
          clear hlt
          have hQN : Aside0 (Q.N = l.length) := ⟨by rw [← hP.out]; rfl⟩
          have hQE : Aside0 (Q.E = nE es) := ⟨by rw [← hP.out]; rfl⟩
          have hQk : Aside0 (Q.Ok) := ⟨by rw [← hP.out]; exact must_ok (eok_edges hok.out)⟩
          have hel : Aside0 ((nE es).length = es.length) := ⟨by simp [nE]⟩
          have hI0 : Aside0 (Q.Inv ⟨I, O, B, List.range l.length⟩ 0) := ⟨by
            have := Sys.Inv.begin hQk.out
            rw [hQN.out, ← hbt.out, ← rep_of I _ bt bt hS2.out.lI (fun j hj => (hJ.out j hj).2.1), ← rep_of B _ true false hS2.out.lW (fun j hj => (hJ.out j hj).2.2.2)] at this
            rw [show O = I by rw [rep_of I _ bt bt hS2.out.lI (fun j hj => (hJ.out j hj).2.1), ← rep_of O _ bt bt hS2.out.lO (fun j hj => (hJ.out j hj).2.2.1)]]
            exact this⟩
          have hSs : Aside0 (∀ j, j < l.length → S.getD j 0 = Q.start j) := ⟨fun j hj => by rw [getD_any S j 0 bt (by rw [hS2.out.lS]; exact hj)]; exact (hJ.out j hj).1⟩
          clear hJ
          have hen : ∀ W', Aside0 (Calls Try.prog 22 #[pv l.length A es.length c (bt) (fv 15 #[PP bq]) (fv 14 #[]) (fv 26 #[]) (fv 27 #[PP bp])] W' (RetB (.int .i64 (((l.length : Int) + es.length + 1) * 65537)) W')) := fun W' => ⟨enough_ (w := W') l.length A es.length c bt _ _ _ _ (by omega) (by omega)⟩
          have pc0 := (blk_cell hS2.out.pr_ 0).trans (show _ = some (.int .i64 (l.length : Int)) from rfl)
          have pc1 := (blk_cell hS2.out.pr_ 1).trans (show _ = some (.slice A es.length c) from rfl)
          have pc2 := (blk_cell hS2.out.pr_ 2).trans (show _ = some (uv (bt)) from rfl)
          have pc3 := (blk_cell hS2.out.pr_ 3).trans (show _ = some (fv 15 #[PP bq]) from rfl)
          have pc4 := (blk_cell hS2.out.pr_ 4).trans (show _ = some (fv 14 #[]) from rfl)
          have pc5 := (blk_cell hS2.out.pr_ 5).trans (show _ = some (fv 26 #[]) from rfl)
          have pc6 := (blk_cell hS2.out.pr_ 6).trans (show _ = some (fv 27 #[PP bp]) from rfl)
          go_upto_region 20 with (fail)
          go_cut [1] (fun u1 wx => ∃ me : Int, u1 = .int .i64 me ∧ Aside0 (me ≤ most ∧ 1 ≤ me ∧ me ≤ 100000000000 ∧ (me = most ∨ (l.length : Int) + 64 * es.length < me)) ∧ Aside0 (Sv w wx l.length ⟨gF, gT, gS, gI, gO, gW⟩ (rowsF (nE es) l.length) (rowsT (nE es) l.length) (pb l.length A es.length c (bt) (fv 15 #[PP bq]) (fv 14 #[]) (fv 26 #[]) (fv 27 #[PP bp])) S I O B u12 (ints (List.range l.length))))
          case first =>
            by_cases hlm : ((l.length : Int) + es.length + 1) * 65537 < most
            · go_wp2_with (go_at_call 22; (with_reducible refine (hen _).out.mono ?_); rintro e wf ⟨rfl, hb⟩; have hS3 := Aside0.mk (hS2.out.below hb); clear hb)
              go_meet
              exact ⟨_, rfl, ⟨by omega⟩, hS3⟩
            · go_wp2_with (go_at_call 22; (with_reducible refine (hen _).out.mono ?_); rintro e wf ⟨rfl, hb⟩; have hS3 := Aside0.mk (hS2.out.below hb); clear hb)
              go_meet
              exact ⟨_, rfl, ⟨by omega⟩, hS3⟩
          case rest =>
          obtain ⟨me, rfl, hme, hS3⟩ := hcut
          go_wp2_with fail
          clear hen pc0 pc1 pc2 pc3 pc4 pc5 pc6 hS2
          go_loopw [1, 4, 5, 12, 15] (fun u1 u4 u5 u12 u15 wr => ∃ (k : Nat) (r : Int) (s : St), u15 = .int .i64 k ∧ u1 = .int .i64 r ∧ u4 = .slice (some ⟨gI, 0, none⟩) l.length l.length ∧ u5 = .slice (some ⟨gO, 0, none⟩) l.length l.length ∧ Aside0 (r = me - k) ∧ 0 ≤ r ∧ r ≤ 100000000000 ∧ Aside0 (Q.Inv s k) ∧ Aside0 (Sv w wr l.length ⟨gF, gT, gS, gI, gO, gW⟩ (rowsF (nE es) l.length) (rowsT (nE es) l.length) (pb l.length A es.length c (bt) (fv 15 #[PP bq]) (fv 14 #[]) (fv 26 #[]) (fv 27 #[PP bp])) S s.i s.o s.wt u12 (ints s.row))) (fun _ _ _ _ i _ => l.length + 64 * es.length - (intOf i).toNat)
          case atStart => exact ⟨0, me, _, rfl, rfl, rfl, rfl, ⟨by omega⟩, by have := hme.out; omega, by have := hme.out; omega, hI0, hS3⟩
          case round =>
            obtain ⟨k, r, s, rfl, rfl, rfl, rfl, hr, r0, r1, hI, hSv⟩ := hrel
            clear hS3 hI0
            obtain ⟨Ar, cr, er⟩ := Kd.R_slice hSv.out.rowR
            subst er
            have hRC := Aside0.mk (Kd.R_reads' hSv.out.rowR).2.2
            rw [ints_len] at hRC
            have hsh : s.row.length ≤ l.length + 64 * es.length := by have := hI.out.short hQk.out; rw [hQN.out, hQE.out, hel.out] at this; exact this
            have hkl : k ≤ s.row.length := hI.out.kl
            have hil : Aside0 ((ints s.row).length = s.row.length) := ⟨ints_len _⟩
            rw [hil.out]
            rw [hil.out] at hSv
            by_cases hlt : k < s.row.length
            · skip
              obtain ⟨ad, er, xk⟩ := Kd.at_int hRC.out (k : Int) (by omega) (by first | omega | (rw [ints_len]; omega))
              cases er
              rw [rd_ints _ _ hlt] at xk
              simp only [Int.toNat_natCast] at xk
              have hnN : s.row.getD k 0 < l.length := by rw [← hQN.out]; exact hI.out.rl _ (getD_mem hlt)
              have hIn := Aside0.mk (hI.out.step hQk.out hlt)
              generalize s.row.getD k 0 = n at *
              have q0 : (0 : Int) ≤ (n : Int) := by omega
              have q1 : (n : Int) < (l.length : Int) := by omega
              have k0 : (0 : Int) ≤ (k : Int) := by omega
              have k1 : (k : Int) < (s.row.length : Int) := by omega
              have ap1 := add_plain gS n
              have ap2 := add_plain gI n
              have ap3 := add_plain gO n
              have ap4 := add_plain gW n
              have ap5 := add_plain gF n
              have ap6 := add_plain gT n
              have hcW : wr.cell? ⟨gW, n, none⟩ = some (.bool (s.wt.getD n false)) := bs_cell hSv.out.bW n (by rw [hSv.out.lW]; exact hnN)
              have hfW : wr.frozen? ⟨gW, n, none⟩ = false := blk_frozen hSv.out.bW n
              have hS4 := Aside0.mk (hSv.out.setW n false)
              go_upto_region 26 with (fail)
              generalize wr.setCell ⟨gW, n, none⟩ (.bool false) = wg at *
              clear hcW hfW xk hSv hRC
              have hcS : wg.cell? ⟨gS, n, none⟩ = some (uv (S.getD n 0)) := us_cell hS4.out.bS n (by rw [hS4.out.lS]; exact hnN)
              rw [hSs.out n hnN] at hcS
              obtain ⟨AF, cF, hcF, hCF⟩ := hS4.out.rowF n hnN
              rw [rowsF_at _ hnN, ints_len] at hcF hCF
              replace hCF := Aside0.mk hCF
              have hcF : wg.cell? ⟨gF, n, none⟩ = some (.slice AF (preds (nE es) n).length cF) := hcF
              have hvin := Aside0.mk (vin_eq Q (nE es) bt hQE.out hbt.out s.o n)
              have hpl : (preds (nE es) n).length ≤ 256 := by have := preds_len (nE es) n; rw [hel.out] at this; omega
              have hpm : Aside0 (∀ q, q < (preds (nE es) n).length → (preds (nE es) n).getD q 0 < l.length) := ⟨fun q hq => by have := preds_lt hQk.out (n := n) (m := (preds (nE es) n).getD q 0) (by rw [hQE.out]; exact getD_mem hq); rwa [hQN.out] at this⟩
              generalize hps : preds (nE es) n = ps at *
              clear hps
              go_wp2_with fail
              clear hcS hcF
              go_loopw [17, 141] (fun u17 u141 wr => ∃ q : Nat, u141 = .int .i64 q ∧ q ≤ ps.length ∧ u17 = uv ((ps.take q).foldl (fun v k => Q.join v (s.o.getD k bt)) (Q.start n)) ∧ Aside0 (Below wg.heap.size wg wr)) (fun _ i _ => ps.length - (intOf i).toNat)
              case atStart => exact ⟨0, rfl, Nat.zero_le _, rfl, ⟨Below.refl _ _⟩⟩
              case round =>
                obtain ⟨q, rfl, hq, rfl, hbg⟩ := hrel
                have hS5 := Aside0.mk (hS4.out.below hbg.out)
                by_cases hqt : q < ps.length
                · obtain ⟨a4, e4, x4⟩ := Kd.at_int (Kd.C_below hCF.out hbg.out) (q : Int) (by omega) (by first | omega | (rw [ints_len]; omega))
                  cases e4
                  rw [rd_ints _ _ hqt] at x4
                  simp only [Int.toNat_natCast] at x4
                  have hmN := hpm.out q hqt
                  have hft := Aside0.mk (fold_take (fun v k => Q.join v (s.o.getD k bt)) (Q.start n) ps q 0 hqt)
                  generalize ps.getD q 0 = m at *
                  have m0 : (0 : Int) ≤ (m : Int) := by omega
                  have m1 : (m : Int) < (l.length : Int) := by omega
                  have apm := add_plain gO m
                  have hcO : wr.cell? ⟨gO, m, none⟩ = some (uv (s.o.getD m 0)) := us_cell hS5.out.bO m (by rw [hS5.out.lO]; exact hmN)
                  rw [getD_any s.o m 0 bt (by rw [hS5.out.lO]; exact hmN)] at hcO
                  have hcp : wr.cell? ⟨w.heap.size, 4, none⟩ = some (fv 14 #[]) := (blk_cell hS5.out.pr_ 4).trans rfl
                  generalize s.o.getD m bt = y at *
                  generalize (ps.take q).foldl (fun v k => Q.join v (s.o.getD k bt)) (Q.start n) = x at *
                  have hj := fun W' => Aside0.mk (hJn x y W').out
                  go_upto_region 30 with (fail)
                  go_quiet ((go_at_call 14; refine Calls.quiet_of_same ((hj _).out.mono fun _ _ h => ⟨h.1, h.2.symm⟩)))
                  go_wp2_with fail
                  go_roundw
                  case rel => exact ⟨q + 1, by go_num, by omega, by rw [hft.out], ⟨below_step hbg.out (pw_below_drewN (Below.refl _ _) _)⟩⟩
                  case measure => simp [intOf]; omega
                · obtain rfl : q = ps.length := by omega
                  rw [List.take_length, ← hvin.out]
                  clear hqt hq hCF hS4
                  have hcI : wr.cell? ⟨gI, n, none⟩ = some (uv (s.i.getD n 0)) := us_cell hS5.out.bI n (by rw [hS5.out.lI]; exact hnN)
                  have hfI : wr.frozen? ⟨gI, n, none⟩ = false := blk_frozen hS5.out.bI n
                  have hS6 := Aside0.mk (hS5.out.setI n (Q.vin s.o n))
                  have hst1 := Aside0.mk (step_same Q s n)
                  have hst2 := Aside0.mk (step_new Q s n)
                  generalize hv : Q.vin s.o n = v at *
                  replace hv := Aside0.mk hv
                  by_cases hz : r = 0
                  · subst hz
                    go_wp2_with fail
                    go_ret3
                    refine Or.inr ⟨?_, rfl, hS6.out.bel⟩
                    have h1 := hr.out
                    have h2 := hme.out
                    rw [hQN.out]
                    omega
                  · have hz0 : (r == 0) = false := beq_eq_false_iff_ne.mpr hz
                    have r2 : 1 ≤ r := by omega
                    have hrn : Aside0 (r - 1 = me - ((k + 1 : Nat) : Int)) := ⟨by have := hr.out; omega⟩
                    clear hz
                    go_upto_region 36 with (fail)
                    generalize wr.setCell ⟨gI, n, none⟩ (uv v) = wh at *
                    clear hcI hfI hS5 hbg
                    have hcp6 : wh.cell? ⟨w.heap.size, 6, none⟩ = some (fv 27 #[PP bp]) := (blk_cell hS6.out.pr_ 6).trans rfl
                    have hfl := hFl wh n v hnN hS6.out.bel
                    go_upto_region 37 with (go_at_call 27; (with_reducible refine hfl.out.mono ?_); rintro e w' ⟨rfl, m, rfl⟩)
                    have hS7 := Aside0.mk (hS6.out.below (pw_below_drewN (Below.refl wh.heap.size wh) m))
                    generalize wh.drewN m = wi at *
                    clear hcp6 hfl hS6
                    have hcp5 : wi.cell? ⟨w.heap.size, 5, none⟩ = some (fv 26 #[]) := (blk_cell hS7.out.pr_ 5).trans rfl
                    have hcO : wi.cell? ⟨gO, n, none⟩ = some (uv (s.o.getD n 0)) := us_cell hS7.out.bO n (by rw [hS7.out.lO]; exact hnN)
                    rw [getD_any s.o n 0 bt (by rw [hS7.out.lO]; exact hnN)] at hcO
                    have heq := fun W' => Aside0.mk (equal_ (Q.flow n v) (s.o.getD n bt) W')
                    by_cases hsame : Q.flow n v = s.o.getD n bt
                    · have hs1 := Aside0.mk (hst1.out (by rw [← hbt.out]; exact hsame))
                      rw [decide_eq_true hsame] at heq
                      replace hsame := Aside0.mk hsame
                      clear hst1 hst2
                      go_quiet ((go_at_call 26; refine Calls.quiet_of_same ((heq _).out.mono fun _ _ h => ⟨h.1, h.2.symm⟩)))
                      rw [hs1.out] at hIn
                      go_wp2_with fail
                      go_roundw
                      case rel => exact ⟨k + 1, r - 1, _, by go_num, rfl, rfl, rfl, hrn, by omega, by omega, hIn, ⟨hS7.out.below (pw_below_drewN (Below.refl _ _) _)⟩⟩
                      case measure => simp [intOf]; omega
                    · have hs1 := Aside0.mk (hst2.out (by rw [← hbt.out]; exact hsame))
                      rw [decide_eq_false hsame] at heq
                      replace hsame := Aside0.mk hsame
                      clear hst1 hst2
                      go_quiet ((go_at_call 26; refine Calls.quiet_of_same ((heq _).out.mono fun _ _ h => ⟨h.1, h.2.symm⟩)))
                      rw [hs1.out, hQE.out] at hIn
                      have hS8 := Aside0.mk (hS7.out.below (pw_below_drewN (Below.refl wi.heap.size wi) nq))
                      generalize wi.drewN nq = wj at *
                      clear hS7 hcp5 hcO heq
                      have hcO : wj.cell? ⟨gO, n, none⟩ = some (uv (s.o.getD n 0)) := us_cell hS8.out.bO n (by rw [hS8.out.lO]; exact hnN)
                      have hfO : wj.frozen? ⟨gO, n, none⟩ = false := blk_frozen hS8.out.bO n
                      have hS9 := Aside0.mk (hS8.out.setO n (Q.flow n v))
                      go_upto_region 39 with (fail)
                      generalize wj.setCell ⟨gO, n, none⟩ (uv (Q.flow n v)) = wk at *
                      clear hcO hfO hS8
                      obtain ⟨AT, cT, hcT, _⟩ := hS9.out.rowT n hnN
                      rw [rowsT_at _ hnN, ints_len] at hcT
                      have hcT : wk.cell? ⟨gT, n, none⟩ = some (.slice AT (succs (nE es) n).length cT) := hcT
                      obtain ⟨VFs, VTs, _, _, _, hTb, _⟩ := hS9.out.m
                      have hTn : Aside0 (VTs.toArray[n]? = some (.slice AT (succs (nE es) n).length cT)) := ⟨(blk_cell hTb n).symm.trans hcT⟩
                      have hTb : Aside0 (wk.heap[gT]? = some (.cells VTs.toArray 55 (0, 0))) := ⟨hTb⟩
                      have hsl : (succs (nE es) n).length ≤ 256 := by have := succs_len (nE es) n; rw [hel.out] at this; omega
                      have hsm : Aside0 (∀ q, q < (succs (nE es) n).length → (succs (nE es) n).getD q 0 < l.length) := ⟨fun q hq => by have := succs_lt hQk.out (n := n) (m := (succs (nE es) n).getD q 0) (by rw [hQE.out]; exact getD_mem hq); rwa [hQN.out] at this⟩
                      generalize hss : succs (nE es) n = ss at *
                      replace hss := Aside0.mk hss
                      go_wp2_with fail
                      clear hcT
                      go_loopw [12, 184] (fun u12 u184 wr => ∃ q : Nat, u184 = .int .i64 q ∧ q ≤ ss.length ∧ Aside0 (wr.heap[gT]? = some (.cells VTs.toArray 55 (0, 0))) ∧ Aside0 (Sv w wr l.length ⟨gF, gT, gS, gI, gO, gW⟩ (rowsF (nE es) l.length) (rowsT (nE es) l.length) (pb l.length A es.length c (bt) (fv 15 #[PP bq]) (fv 14 #[]) (fv 26 #[]) (fv 27 #[PP bp])) S (s.i.set n v) (s.o.set n (Q.flow n v)) (push (ss.take q) (s.wt.set n false, s.row)).1 u12 (ints (push (ss.take q) (s.wt.set n false, s.row)).2))) (fun _ i _ => ss.length - (intOf i).toNat)
                      case atStart => exact ⟨0, rfl, Nat.zero_le _, hTb, hS9⟩
                      case round =>
                        obtain ⟨q, rfl, hq, hTb2, hSa⟩ := hrel
                        clear hS9 hTb
                        by_cases hqt : q < ss.length
                        · obtain ⟨AT2, cT2, hc2, hCT2⟩ := hSa.out.rowT n hnN
                          rw [rowsT_at _ hnN, hss.out, ints_len] at hc2 hCT2
                          have hAT : AT2 = AT := by
                            have h1 := ((blk_cell hTb2.out n).symm.trans hc2).symm.trans hTn.out
                            injection h1 with h1
                            injection h1
                          subst hAT
                          obtain ⟨a4, e4, x4⟩ := Kd.at_int hCT2 (q : Int) (by omega) (by first | omega | (rw [ints_len]; omega))
                          cases e4
                          rw [rd_ints _ _ hqt] at x4
                          simp only [Int.toNat_natCast] at x4
                          have hmN := hsm.out q hqt
                          have hpt := Aside0.mk (push_take ss (s.wt.set n false, s.row) q hqt)
                          have hpn := (push_len (ss.take q) (s.wt.set n false, s.row)).2
                          have htl : (ss.take q).length ≤ q := List.length_take_le _ _
                          generalize ss.getD q 0 = m at *
                          have hpb : Aside0 ((push (ss.take q) (s.wt.set n false, s.row)).2.length ≤ 100000) := ⟨by simp only at hpn; omega⟩
                          clear hc2 hCT2 hpn htl
                          generalize push (ss.take q) (s.wt.set n false, s.row) = st at *
                          have m0 : (0 : Int) ≤ (m : Int) := by omega
                          have m1 : (m : Int) < (l.length : Int) := by omega
                          have apm := add_plain gW m
                          have hcW : wr.cell? ⟨gW, m, none⟩ = some (.bool (st.1.getD m false)) := bs_cell hSa.out.bW m (by rw [hSa.out.lW]; exact hmN)
                          have hfW : wr.frozen? ⟨gW, m, none⟩ = false := blk_frozen hSa.out.bW m
                          cases hwm : st.1.getD m false
                          · rw [hwm] at hcW
                            have hp1 := Aside0.mk (push1_no st m hwm)
                            replace hwm := Aside0.mk hwm
                            have hSb := Aside0.mk (hSa.out.setW m true)
                            have hTb3 : Aside0 ((wr.setCell ⟨gW, m, none⟩ (.bool true)).heap[gT]? = some (.cells VTs.toArray 55 (0, 0))) := ⟨blk_far hTb2.out (ne_ty hTb2.out hSa.out.bW rfl) _⟩
                            go_upto_region 44 with (fail)
                            generalize wr.setCell ⟨gW, m, none⟩ (.bool true) = wl at *
                            clear hcW hfW x4 hSa hTb2
                            go_wp2_with (at_builtin; (refine Kd.R_append (Kd.int .i64) (w0 := w) w.heap.size rfl (.tmp 196) (.tmp 198) 55 3 (.int .i64 0) 8 rfl Try.underlying55 info3 rfl (by decide) (by omega) u12 (ints st.2) (m : Int) [.int .i64 m] (fun _ => True) (fun _ => False) rfl rfl ?bP (fun _ hk => hk.elim) ?bF ?bO ?bB ?bS ?bL ?_; (case bP => exact rfl); (case bB => exact hSb.out.bel); (case bF => exact fun _ _ => trivial); (case bO => exact hSb.out.rowR); (case bS => exact below_size hSb.out.bel); (case bL => rw [ints_len]; have := hpb.out; omega); intro v1 w1 ho hb hg hat; have hTb4 := Aside0.mk (blk_grown hTb3.out hg (Kd.R_ne hSb.out.rowR hTb3.out (by decide))); have hSc := Aside0.mk (hSb.out.push hg ho hat hb); clear ho hb hg hat))
                            rw [ints_snoc] at hSc
                            go_roundw
                            case rel => exact ⟨q + 1, by go_num, by omega, hTb4, ⟨by rw [hpt.out, hp1.out]; exact hSc.out⟩⟩
                            case measure => simp [intOf]; omega
                          · rw [hwm] at hcW
                            have hp1 := Aside0.mk (push1_yes st m hwm)
                            replace hwm := Aside0.mk hwm
                            go_wp2_with fail
                            go_roundw
                            case rel => exact ⟨q + 1, by go_num, by omega, hTb2, ⟨by rw [hpt.out, hp1.out]; exact hSa.out⟩⟩
                            case measure => simp [intOf]; omega
                        · obtain rfl : q = ss.length := by omega
                          rw [List.take_length] at hSa
                          go_wp2_with fail
                          go_roundw
                          case rel => exact ⟨k + 1, r - 1, _, by go_num, rfl, rfl, rfl, hrn, by omega, by omega, hIn, hSa⟩
                          case measure => simp [intOf]; omega
            · obtain rfl : k = s.row.length := by omega
              have hfin := Aside0.mk hI.out.done
              go_wp2_with fail
              go_ret3
              refine Or.inl ⟨gI, gO, s.i, s.o, ?_, hSv.out.bI, hSv.out.bO, hfin.out, hSv.out.bel⟩
              rw [hQN.out]
              rfl
end Go.Proofs.Ytfdhpogpeajifaa.Lat
