/- The answer where all edges must agree: the walk of the law. -/
import Derived.Test.YtfdhpogpeajifaaLaN
import Derived.Test.YtfdhpogpeajifaaLaS
namespace Go.Proofs.Ytfdhpogpeajifaa.Lat
open Go.RowKit Go.Proofs.YtfdhpogpeajifaaW.PrintWords Go.Proofs.YtfdhpogpeajifaaW.PrintLast Go.Proofs.YtfdhpogpeajifaaW.PrintMore
set_option linter.unusedVariables false
set_option linter.unusedSimpArgs false
theorem must_flow (l : List Nd) (E : List (Nat × Nat)) (n : Nat) (v : V) : (must l E).flow n v = (v &&& ~~~ (l.getD n z0).kill) ||| (l.getD n z0).gen := rfl
/-- The least answer is told, where all must agree. -/
def RetGM (l : List Nd) (es : List (Int × Int)) (w : World) (e : Ending) (w' : World) : Prop :=
  ∃ gI gO I O, e = .returned (.tuple #[.slice (some ⟨gI, 0, none⟩) l.length l.length, .slice (some ⟨gO, 0, none⟩) l.length l.length, .int .i64 0]) ∧ Aside0 (w'.heap[gI]? = some (.cells (us I) 29 (0, 0))) ∧ Aside0 (w'.heap[gO]? = some (.cells (us O) 29 (0, 0))) ∧ Aside0 ((must l (nE es)).Lfp I O) ∧ Aside0 (Below w.heap.size w w')
theorem solve_goM {w : World} {bt : V} {l : List Nd} {A : Option Addr} {es : List (Int × Int)} {c : Nat} (hE : Aside0 (kE.C w A es.length es)) {bp bq : Nat} (hC : Aside0 (Cap w bp l)) (hCM : Aside0 (Cap w bq l)) (hN : l.length ≤ 64) (hes : es.length ≤ 256) (hok : allOk l.length es = true) (hbt : Aside0 (bt = (must l (nE es)).bot)) :
    Calls Try.prog 9 #[pv l.length A es.length c bt (fv 15 #[PP bq]) (fv 14 #[]) (fv 26 #[]) (fv 27 #[PP bp]), .int .i64 1048576] w (RetGM l es w) := (solve_must bt l A es c hE bp hC bq hCM 1048576 hN hes hok (by omega) hbt).mono fun e w' h => by
  rcases h with ⟨gI, gO, I, O, h1, h2, h3, h4, h5⟩ | ⟨h1, _⟩
  · exact ⟨gI, gO, I, O, h1, ⟨h2⟩, ⟨h3⟩, ⟨h4⟩, ⟨h5⟩⟩
  · exfalso
    have : (1048576 : Int) < (l.length : Int) + 64 * es.length := h1
    omega
set_option maxHeartbeats 8000000 in
set_option maxRecDepth 100000 in
theorem must_big {w : World} (A : Option Addr) (n c : Nat) (A1 : Option Addr) (m c1 : Nat) (h : 64 < n ∨ 256 < m) (hn : n ≤ 9223372036854775807) (hm : m ≤ 9223372036854775807) :
    Calls Try.prog 4 #[.slice A n c, .slice A1 m c1] w (RetB (.bool true) w) := by
  have hXN := Aside0.mk (blk_new w (.cells #[.slice A n c] 22 (0, 0)))
  have hB0 : Aside0 (Below w.heap.size w (w.alloc (.cells #[.slice A n c] 22 (0, 0)))) := ⟨below_alloc (Below.refl _ _) _⟩
  have cN : (w.alloc (.cells #[.slice A n c] 22 (0, 0))).cell? ⟨w.heap.size, 0, none⟩ = some (.slice A n c) := (blk_cell hXN.out 0).trans rfl
  by_cases h1 : 64 < n
  · clear h
    go_enter Try.func4, Try.ntmps4
    go_upto_region 1 with (fail)
    generalize w.alloc (.cells #[.slice A n c] 22 (0, 0)) = W at *
    go_wp2_with (go_at_call 8; (with_reducible refine (awake_ _).mono ?_); rintro e w1 ⟨rfl, hb⟩; replace hb := Aside0.mk hb)
    go_ret
    exact ⟨rfl, below_step hB0.out hb.out⟩
  · have h2 : 256 < m := by omega
    clear h
    go_enter Try.func4, Try.ntmps4
    go_upto_region 1 with (fail)
    generalize w.alloc (.cells #[.slice A n c] 22 (0, 0)) = W at *
    go_wp2_with (go_at_call 8; (with_reducible refine (awake_ _).mono ?_); rintro e w1 ⟨rfl, hb⟩; replace hb := Aside0.mk hb)
    go_ret
    exact ⟨rfl, below_step hB0.out hb.out⟩
set_option maxHeartbeats 8000000 in
set_option maxRecDepth 100000 in
theorem must_no {w : World} (A : Option Addr) (l : List Nd) (c : Nat) (hNn : Aside0 (kN.C w A l.length l)) (A1 : Option Addr) (es : List (Int × Int)) (c1 : Nat) (hE : Aside0 (kE.C w A1 es.length es)) (h1 : l.length ≤ 64) (h2 : es.length ≤ 256) (hok : allOk l.length es = false) :
    Calls Try.prog 4 #[.slice A l.length c, .slice A1 es.length c1] w (RetB (.bool true) w) := by
  have hXN := Aside0.mk (blk_new w (.cells #[.slice A l.length c] 22 (0, 0)))
  have hB0 : Aside0 (Below w.heap.size w (w.alloc (.cells #[.slice A l.length c] 22 (0, 0)))) := ⟨below_alloc (Below.refl _ _) _⟩
  have cN : (w.alloc (.cells #[.slice A l.length c] 22 (0, 0))).cell? ⟨w.heap.size, 0, none⟩ = some (.slice A l.length c) := (blk_cell hXN.out 0).trans rfl
  have hed : ∀ W, Below w.heap.size w W → Aside0 (Calls Try.prog 11 #[.slice A1 es.length c1, .int .i64 (l.length : Int)] W fun e w' => e = .returned (.bool false) ∧ W = w') := fun W b => ⟨by have := edges_ (w := W) (A := A1) (c := c1) (es := es) l.length ⟨Kd.C_below hE.out b⟩; rw [hok] at this; exact this⟩
  replace hok := Aside0.mk hok
  go_enter Try.func4, Try.ntmps4
  go_upto_region 1 with (fail)
  generalize w.alloc (.cells #[.slice A l.length c] 22 (0, 0)) = W at *
  go_wp2_with (first | (go_at_call 11; (with_reducible refine (hed _ hB0.out).out.mono ?_); rintro e w3 ⟨rfl, rfl⟩) | (go_at_call 8; (with_reducible refine (awake_ _).mono ?_); rintro e w4 ⟨rfl, hb4⟩; replace hb4 := Aside0.mk hb4))
  go_ret
  exact ⟨rfl, below_step hB0.out hb4.out⟩
set_option maxHeartbeats 32000000 in
set_option maxRecDepth 100000 in
theorem must_yes {w : World} (A : Option Addr) (l : List Nd) (c : Nat) (hNn : Aside0 (kN.C w A l.length l)) (A1 : Option Addr) (es : List (Int × Int)) (c1 : Nat) (hE : Aside0 (kE.C w A1 es.length es)) (h1 : l.length ≤ 64) (h2 : es.length ≤ 256) (hok : allOk l.length es = true) :
    Calls Try.prog 4 #[.slice A l.length c, .slice A1 es.length c1] w (RetB (.bool true) w) := by
  have hXN := Aside0.mk (blk_new w (.cells #[.slice A l.length c] 22 (0, 0)))
  have hB0 : Aside0 (Below w.heap.size w (w.alloc (.cells #[.slice A l.length c] 22 (0, 0)))) := ⟨below_alloc (Below.refl _ _) _⟩
  have cN : (w.alloc (.cells #[.slice A l.length c] 22 (0, 0))).cell? ⟨w.heap.size, 0, none⟩ = some (.slice A l.length c) := (blk_cell hXN.out 0).trans rfl
  have hmf : ∀ (fn : Fn) (first cap : Array Value) (w : World), (Instr.makeFunc fn first cap).run Try.prog w = .ok (.func fn first cap) w := fun _ _ _ _ => rfl
  have hed : ∀ W, Below w.heap.size w W → Aside0 (Calls Try.prog 11 #[.slice A1 es.length c1, .int .i64 (l.length : Int)] W fun e w' => e = .returned (.bool true) ∧ W = w') := fun W b => ⟨by have := edges_ (w := W) (A := A1) (c := c1) (es := es) l.length ⟨Kd.C_below hE.out b⟩; rw [hok] at this; exact this⟩
  have hgo := fun (W : World) (bt : V) (A2 : Option Addr) (c2 bp bq : Nat) (hc : Aside0 (kE.C W A2 es.length es)) (hC : Aside0 (Cap W bp l)) (hCM : Aside0 (Cap W bq l)) (hbt : Aside0 (bt = (must l (nE es)).bot)) => Aside0.mk (solve_goM (c := c2) hc hC hCM h1 h2 hok hbt)
  have hQk : Aside0 ((must l (nE es)).Ok) := ⟨must_ok (eok_edges hok)⟩
  have hR0 : Aside0 ((must l (nE es)).Rnd (List.replicate l.length (must l (nE es)).bot) (List.replicate l.length (must l (nE es)).bot)) := ⟨Sys.Rnd.begin hQk.out⟩
  have hmk25 := mk25 l.length (by omega)
  obtain ⟨bt, hbt⟩ : ∃ bt : V, Aside0 (bt = (must l (nE es)).bot) := ⟨_, ⟨rfl⟩⟩
  have hbv : Aside0 (uv bt = .int .u64 18446744073709551615) := ⟨by rw [hbt.out]; rfl⟩
  replace hok := Aside0.mk hok
  go_enter Try.func4, Try.ntmps4
  go_upto_region 1 with (fail)
  generalize w.alloc (.cells #[.slice A l.length c] 22 (0, 0)) = W0 at *
  have hN0 := Aside0.mk (Kd.C_below hNn.out hB0.out)
  have hE0 := Aside0.mk (Kd.C_below hE.out hB0.out)
  go_upto_region 4 with (first | (go_at_call 11; (with_reducible refine (hed _ hB0.out).out.mono ?_); rintro e w3 ⟨rfl, rfl⟩) | (go_at_call 10; (with_reducible refine (problemB hN0 hE0 (by omega)).mono ?_); rintro e w1 ⟨A2, c2, b, b0, rfl, hbt0, hE2, hC2, hb1⟩))
  clear hbt0 hN0 hE0 hed cN
  have hB1 := Aside0.mk (below_step hB0.out hb1.out)
  replace hXN := Aside0.mk (blk_below hXN.out hb1.out)
  have hX := Aside0.mk (blk_new w1 (pb l.length A2 es.length c2 b0 (fv 24 #[PP b]) (fv 25 #[]) (fv 26 #[]) (fv 27 #[PP b])))
  have hW := Aside0.mk (below_alloc (Below.refl w1.heap.size w1) (pb l.length A2 es.length c2 b0 (fv 24 #[PP b]) (fv 25 #[]) (fv 26 #[]) (fv 27 #[PP b])))
  generalize w1.alloc (pb l.length A2 es.length c2 b0 (fv 24 #[PP b]) (fv 25 #[]) (fv 26 #[]) (fv 27 #[PP b])) = W at *
  clear hb1 hB0
  have r2 := (blk_cell hX.out 2).trans (show _ = some (uv b0) from rfl)
  have f2 := blk_frozen hX.out 2
  go_upto_region 5 with (fail)
  replace hX := Aside0.mk (blk_put hX.out 2 (.int .u64 18446744073709551615) rfl)
  replace hW : Aside0 (Below w1.heap.size w1 (W.setCell ⟨w1.heap.size, 2, none⟩ (.int .u64 18446744073709551615))) := ⟨below_set hW.out (Nat.le_refl _)⟩
  generalize W.setCell ⟨w1.heap.size, 2, none⟩ (.int .u64 18446744073709551615) = Wa at *
  clear r2 f2
  have r2 := (blk_cell hX.out 4).trans (show _ = some (fv 25 #[]) from rfl)
  have f2 := blk_frozen hX.out 4
  go_upto_region 6 with (fail)
  replace hX := Aside0.mk (blk_put hX.out 4 (fv 14 #[]) rfl)
  replace hW : Aside0 (Below w1.heap.size w1 (Wa.setCell ⟨w1.heap.size, 4, none⟩ (fv 14 #[]))) := ⟨below_set hW.out (Nat.le_refl _)⟩
  generalize Wa.setCell ⟨w1.heap.size, 4, none⟩ (fv 14 #[]) = Wb at *
  clear r2 f2
  have r2 := (blk_cell hX.out 3).trans (show _ = some (fv 24 #[PP b]) from rfl)
  have f2 := blk_frozen hX.out 3
  go_upto_region 7 with (fail)
  replace hX := Aside0.mk (blk_put hX.out 3 (fv 15 #[PP w.heap.size]) rfl)
  replace hW : Aside0 (Below w1.heap.size w1 (Wb.setCell ⟨w1.heap.size, 3, none⟩ (fv 15 #[PP w.heap.size]))) := ⟨below_set hW.out (Nat.le_refl _)⟩
  generalize Wb.setCell ⟨w1.heap.size, 3, none⟩ (fv 15 #[PP w.heap.size]) = Wc at *
  clear r2 f2 hmf
  have p0 := (blk_cell hX.out 0).trans (show _ = some (.int .i64 (l.length : Int)) from rfl)
  have p1 := (blk_cell hX.out 1).trans (show _ = some (.slice A2 es.length c2) from rfl)
  have p2 := (blk_cell hX.out 2).trans (show _ = some (uv bt) from (by rw [hbv.out]; rfl))
  have p3 := (blk_cell hX.out 3).trans (show _ = some (fv 15 #[PP w.heap.size]) from rfl)
  have p4 := (blk_cell hX.out 4).trans (show _ = some (fv 14 #[]) from rfl)
  have p5 := (blk_cell hX.out 5).trans (show _ = some (fv 26 #[]) from rfl)
  have p6 := (blk_cell hX.out 6).trans (show _ = some (fv 27 #[PP b]) from rfl)
  replace hXN := Aside0.mk (blk_below hXN.out hW.out)
  replace hB1 := Aside0.mk (below_step hB1.out hW.out)
  replace hE2 := Aside0.mk (Kd.C_below hE2.out hW.out)
  replace hC2 := Aside0.mk (hC2.out.below hW.out)
  have hCM : Aside0 (Cap Wc w.heap.size l) := ⟨⟨⟨A, c, hXN.out, Kd.C_below hNn.out hB1.out⟩⟩⟩
  go_upto_region 8 with (go_at_call 9; (with_reducible refine (hgo _ _ _ _ _ _ hE2 hC2 hCM hbt).out.mono ?_); rintro e w2 ⟨gI, gO, I, O, rfl, hI, hO, hL, hb2⟩)
  clear p0 p1 p2 p3 p4 p5 p6 hgo hE2 hC2 hCM hX hW
  replace hXN := Aside0.mk (blk_below hXN.out hb2.out)
  have hB2 := Aside0.mk (below_step hB1.out hb2.out)
  replace hNn := Aside0.mk (Kd.C_below hNn.out hB2.out)
  replace hE := Aside0.mk (Kd.C_below hE.out hB2.out)
  have cN : w2.cell? ⟨w.heap.size, 0, none⟩ = some (.slice A l.length c) := (blk_cell hXN.out 0).trans rfl
  clear hB1 hb2
  go_upto_region 10 with (fail)
  go_cut [9, 10] (fun u9 u10 wx => ∃ gA gB : Nat, u9 = .slice (some ⟨gA, 0, none⟩) l.length l.length ∧ u10 = .slice (some ⟨gB, 0, none⟩) l.length l.length ∧ Aside0 (Mk2 w2 wx l.length gA gB))
  case first =>
    refine start_ (n := 8) (S := fun w' => w'.cell? ⟨w.heap.size, 0, none⟩ = some (.slice A l.length c)) (ds := []) #[false, false, false, false, false, false, false, false] (by kernel_rfl) rfl rfl (cN) (fun hHeld => ?_)
    replace hXN : Aside0 (w2.drew.heap[w.heap.size]? = _) := ⟨hXN.out⟩
    have hb12 : Aside0 (Below w2.heap.size w2 w2.drew) := ⟨below_drew (Below.refl _ _)⟩
    clear cN
    generalize hdr : w2.drew = wd at *
    clear hdr
    refine take_ (i := 0) (N := some 62) (v := ?_) (a' := ?_) #[true, false, false, false, false, false, false, false] rfl rfl (by kernel_rfl) (fun _ _ _ h => h) (Or.inl ⟨by rfl, ?_⟩) hHeld ?_ ?_
    rotate_left
    · intro w' s0
      go_simp
      try with_reducible rfl
    rotate_left
    · simp only [Act.put, List.setIfInBounds_toArray, List.set_cons_zero, List.set_cons_succ]
      rfl
    refine pure_ (i := 1) (N := some 63) (v := ?_) (a' := ?_) #[true, true, false, false, false, false, false, false] rfl rfl (by kernel_rfl) (fun _ _ _ h => h) (Or.inl ⟨by rfl, ?_⟩) ?_ ?_
    rotate_left
    · intro w'
      go_simp
      try with_reducible rfl
    rotate_left
    · simp only [Act.put, List.setIfInBounds_toArray, List.set_cons_zero, List.set_cons_succ]
      rfl
    refine take_ (i := 3) (N := some 65) (v := ?_) (a' := ?_) #[true, true, false, true, false, false, false, false] rfl rfl (by kernel_rfl) (fun _ _ _ h => h) (Or.inl ⟨by rfl, ?_⟩) hHeld ?_ ?_
    rotate_left
    · intro w' s0
      go_simp
      try with_reducible rfl
    rotate_left
    · simp only [Act.put, List.setIfInBounds_toArray, List.set_cons_zero, List.set_cons_succ]
      rfl
    refine pure_ (i := 4) (N := some 66) (v := ?_) (a' := ?_) #[true, true, false, true, true, false, false, false] rfl rfl (by kernel_rfl) (fun _ _ _ h => h) (Or.inl ⟨by rfl, ?_⟩) ?_ ?_
    rotate_left
    · intro w'
      go_simp
      try with_reducible rfl
    rotate_left
    · simp only [Act.put, List.setIfInBounds_toArray, List.set_cons_zero, List.set_cons_succ]
      rfl
    refine two_ (i := 2) (j := 5) (Ni := some 64) (Nj := some 67) #[true, true, true, true, true, false, false, false] #[true, true, false, true, true, true, false, false] rfl rfl rfl rfl (by kernel_rfl) (by decide) (by decide) (fun K hK => ?_) (fun K hK => ?_)
    · refine value_ (w1 := wd.alloc (zero l.length)) (v := .slice (some ⟨wd.heap.size, 0, none⟩) l.length l.length) (by rfl) rfl (by go_simp) ?_
      refine hK.out _ _ ((blk_cell (blk_alloc hXN.out _) 0).trans rfl) (fun hHeld => ?_)
      clear hK K
      refine norm_ (a' := ?_) ?_ ?_
      rotate_left
      · simp only [Act.put, List.setIfInBounds_toArray, List.set_cons_zero, List.set_cons_succ]
        rfl
      refine pure_ (i := 6) (N := some 9) (v := ?_) (a' := ?_) #[true, true, true, true, true, false, true, false] rfl rfl (by kernel_rfl) (fun _ _ _ h => h) (Or.inl ⟨by rfl, ?_⟩) ?_ ?_
      rotate_left
      · intro w'
        go_simp
        try with_reducible rfl
      rotate_left
      · simp only [Act.put, List.setIfInBounds_toArray, List.set_cons_zero, List.set_cons_succ]
        rfl
      refine one_ (i := 5) (N := some 67) #[true, true, true, true, true, true, true, false] rfl rfl (by kernel_rfl) (by decide) (fun K hK => ?_)
      refine value_ (w1 := (wd.alloc (zero l.length)).alloc (zero l.length)) (v := .slice (some ⟨wd.heap.size + 1, 0, none⟩) l.length l.length) (by rfl) rfl (by go_simp) ?_
      refine hK.out _ _ ((blk_cell (blk_alloc (blk_alloc hXN.out _) _) 0).trans rfl) (fun hHeld => ?_)
      clear hK K
      refine norm_ (a' := ?_) ?_ ?_
      rotate_left
      · simp only [Act.put, List.setIfInBounds_toArray, List.set_cons_zero, List.set_cons_succ]
        rfl
      refine pure_ (i := 7) (N := some 10) (v := ?_) (a' := ?_) #[true, true, true, true, true, true, true, true] rfl rfl (by kernel_rfl) (fun _ _ _ h => h) (Or.inl ⟨by rfl, ?_⟩) ?_ ?_
      rotate_left
      · intro w'
        go_simp
        try with_reducible rfl
      rotate_left
      · simp only [Act.put, List.setIfInBounds_toArray, List.set_cons_zero, List.set_cons_succ]
        rfl
      refine done_ (by kernel_rfl) ?_
      go_wp2_with fail
      go_meet
      exact ⟨_, _, rfl, rfl, ⟨Mk2.mk' hb12.out⟩⟩
    · refine value_ (w1 := wd.alloc (zero l.length)) (v := .slice (some ⟨wd.heap.size, 0, none⟩) l.length l.length) (by rfl) rfl (by go_simp) ?_
      refine hK.out _ _ ((blk_cell (blk_alloc hXN.out _) 0).trans rfl) (fun hHeld => ?_)
      clear hK K
      refine norm_ (a' := ?_) ?_ ?_
      rotate_left
      · simp only [Act.put, List.setIfInBounds_toArray, List.set_cons_zero, List.set_cons_succ]
        rfl
      refine one_ (i := 2) (N := some 64) #[true, true, true, true, true, true, false, false] rfl rfl (by kernel_rfl) (by decide) (fun K hK => ?_)
      refine value_ (w1 := (wd.alloc (zero l.length)).alloc (zero l.length)) (v := .slice (some ⟨wd.heap.size + 1, 0, none⟩) l.length l.length) (by rfl) rfl (by go_simp) ?_
      refine hK.out _ _ ((blk_cell (blk_alloc (blk_alloc hXN.out _) _) 0).trans rfl) (fun hHeld => ?_)
      clear hK K
      refine norm_ (a' := ?_) ?_ ?_
      rotate_left
      · simp only [Act.put, List.setIfInBounds_toArray, List.set_cons_zero, List.set_cons_succ]
        rfl
      refine pure_ (i := 6) (N := some 9) (v := ?_) (a' := ?_) #[true, true, true, true, true, true, true, false] rfl rfl (by kernel_rfl) (fun _ _ _ h => h) (Or.inl ⟨by rfl, ?_⟩) ?_ ?_
      rotate_left
      · intro w'
        go_simp
        try with_reducible rfl
      rotate_left
      · simp only [Act.put, List.setIfInBounds_toArray, List.set_cons_zero, List.set_cons_succ]
        rfl
      refine pure_ (i := 7) (N := some 10) (v := ?_) (a' := ?_) #[true, true, true, true, true, true, true, true] rfl rfl (by kernel_rfl) (fun _ _ _ h => h) (Or.inl ⟨by rfl, ?_⟩) ?_ ?_
      rotate_left
      · intro w'
        go_simp
        try with_reducible rfl
      rotate_left
      · simp only [Act.put, List.setIfInBounds_toArray, List.set_cons_zero, List.set_cons_succ]
        rfl
      refine done_ (by kernel_rfl) ?_
      go_wp2_with fail
      go_meet
      exact ⟨_, _, rfl, rfl, ⟨(Mk2.mk' hb12.out).swap⟩⟩
  case rest =>
  obtain ⟨gA, gB, rfl, rfl, hM⟩ := hcut
  have hL0 := Aside0.mk (Ls.begin hM.out)
  clear hM hmk25 cN
  go_wp2_with fail
  go_loopw [11] (fun u11 wr => ∃ (n : Nat) (I O : List V), u11 = .int .i64 n ∧ n ≤ l.length ∧ Aside0 (Ls w2 wr l.length gA gB I O) ∧ Aside0 (∀ m, m < n → I.getD m bt = bt ∧ O.getD m bt = bt)) (fun i _ => l.length - (intOf i).toNat)
  case atStart => exact ⟨0, _, _, rfl, Nat.zero_le _, hL0, ⟨fun m hm => by omega⟩⟩
  case round =>
    clear hL0
    obtain ⟨n, I', O', rfl, hn, hS, hall⟩ := hrel
    have cN : wr.cell? ⟨w.heap.size, 0, none⟩ = some (.slice A l.length c) := (blk_cell (blk_below hXN.out hS.out.bel) 0).trans rfl
    by_cases hlt : n < l.length
    · have q0 : (0 : Int) ≤ (n : Int) := by omega
      have q1 : (n : Int) < (l.length : Int) := by omega
      have ap2 := add_plain gA n
      have ap3 := add_plain gB n
      have hcA : wr.cell? ⟨gA, n, none⟩ = some (uv (I'.getD n 0)) := us_cell hS.out.bI n (by rw [hS.out.lI]; exact hlt)
      have hfA : wr.frozen? ⟨gA, n, none⟩ = false := blk_frozen hS.out.bI n
      have hcB : (wr.setCell ⟨gA, n, none⟩ (.int .u64 18446744073709551615)).cell? ⟨gB, n, none⟩ = some (uv (O'.getD n 0)) := (cell_far (fun e => hS.out.ne e.symm) _).trans (us_cell hS.out.bO n (by rw [hS.out.lO]; exact hlt))
      have hfB : (wr.setCell ⟨gA, n, none⟩ (.int .u64 18446744073709551615)).frozen? ⟨gB, n, none⟩ = false := by have := blk_frozen (hS.out.setI n bt).bO n; rwa [hbv.out] at this
      have hS3 : Aside0 (Ls w2 ((wr.setCell ⟨gA, n, none⟩ (.int .u64 18446744073709551615)).setCell ⟨gB, n, none⟩ (.int .u64 18446744073709551615)) l.length gA gB (I'.set n bt) (O'.set n bt)) := ⟨by have h := (hS.out.setI n bt).setO n bt; rw [hbv.out] at h; exact h⟩
      have hal3 : Aside0 (∀ m, m < n + 1 → (I'.set n bt).getD m bt = bt ∧ (O'.set n bt).getD m bt = bt) := ⟨fun m hm => by
        by_cases e : m = n
        · subst e; exact ⟨getD_set_eq _ _ _ _ (by rw [hS.out.lI]; exact hlt), getD_set_eq _ _ _ _ (by rw [hS.out.lO]; exact hlt)⟩
        · rw [getD_set_ne _ _ _ _ _ (fun h => e h.symm), getD_set_ne _ _ _ _ _ (fun h => e h.symm)]; exact hall.out m (by omega)⟩
      generalize I'.getD n 0 = x1 at *
      generalize O'.getD n 0 = x2 at *
      go_wp2_with fail
      go_roundw
      case rel => exact ⟨n + 1, _, _, by go_num, by omega, hS3, hal3⟩
      case measure => simp [intOf]; omega
    · obtain rfl : n = l.length := by omega
      have hR : Aside0 ((must l (nE es)).Rnd I' O') := ⟨by rw [rep_of I' l.length bt bt hS.out.lI fun j hj => (hall.out j hj).1, rep_of O' l.length bt bt hS.out.lO fun j hj => (hall.out j hj).2, hbt.out]; exact hR0.out⟩
      clear hR0 hall
      go_wp2_with fail
      clear cN
      have hlq : Aside0 (Left (must l (nE es)) (128 * l.length + 1) true I' O') := ⟨⟨fun _ => by show 128 * l.length + 1 ≤ _; omega, fun _ => trivial⟩⟩
      go_loopg [12] (128 * l.length + 1) (fun kq u12 wr => ∃ (kg : Nat) (t : Bool) (J P : List V), kg = kq ∧ u12 = .bool t ∧ Aside0 (Ls w2 wr l.length gA gB J P) ∧ Aside0 ((must l (nE es)).Rnd J P) ∧ Aside0 (Okm (must l (nE es)) l.length t J P) ∧ Aside0 (Left (must l (nE es)) kq t J P))
      case atStart => exact ⟨_, true, _, _, rfl, rfl, hS, hR, ⟨fun h => by cases h⟩, hlq⟩
      case round =>
        clear hS hR hlq
        obtain ⟨kg, t, J, P, rfl, rfl, hS, hR, hO1, hF⟩ := hrel
        cases t
        · have hfin := Aside0.mk (hR.out.done (hO1.out rfl))
          obtain ⟨rfl, rfl⟩ := Sys.Lfp.unique hQk.out hL.out hfin.out
          have hI3 := Aside0.mk (blk_below hI.out hS.out.bel)
          have hO3 := Aside0.mk (blk_below hO.out hS.out.bel)
          have hb3 := Aside0.mk (below_step hB2.out hS.out.bel)
          have hs1 : Calls Try.prog 13 #[.slice (some ⟨gI, 0, none⟩) l.length l.length, .slice (some ⟨gA, 0, none⟩) l.length l.length] wr (RetB (.bool true) wr) := same_ hI3.out hS.out.bI hS.out.lI (by omega)
          have hs2 : ∀ W, Below wr.heap.size wr W → Aside0 (Calls Try.prog 13 #[.slice (some ⟨gO, 0, none⟩) l.length l.length, .slice (some ⟨gB, 0, none⟩) l.length l.length] W (RetB (.bool true) W)) := fun W b => ⟨same_ (blk_below hO3.out b) (blk_below hS.out.bO b) hS.out.lO (by omega)⟩
          go_wp2_with (first | (go_at_call 13; (with_reducible refine hs1.mono ?_); rintro e w4 ⟨rfl, hb4⟩; replace hb4 := Aside0.mk hb4) | (go_at_call 13; (with_reducible refine (hs2 _ hb4.out).out.mono ?_); rintro e w5 ⟨rfl, hb5⟩; replace hb5 := Aside0.mk hb5) | (go_at_call 8; (with_reducible refine (awake_ _).mono ?_); rintro e w6 ⟨rfl, hb6⟩; replace hb6 := Aside0.mk hb6))
          go_ret
          exact ⟨rfl, below_step (below_step (below_step hb3.out hb4.out) hb5.out) hb6.out⟩
        · obtain ⟨r, hr⟩ : ∃ r, r = (must l (nE es)).rs J + (must l (nE es)).rs P := ⟨_, rfl⟩
          have hkr : Aside0 (128 * l.length + 1 ≤ kg + r) := ⟨by have : 128 * l.length + 1 ≤ kg + _ + _ := hF.out.1 rfl; omega⟩
          have hmid : Aside0 (Mid (must l (nE es)) r false J P) := ⟨by omega, fun h => by cases h⟩
          clear hF hO1 hr
          go_wp2_with fail
          go_loopw [12, 13] (fun u12 u13 wr => ∃ (n : Nat) (t : Bool) (J P : List V), u13 = .int .i64 n ∧ n ≤ l.length ∧ u12 = .bool t ∧ Aside0 (Ls w2 wr l.length gA gB J P) ∧ Aside0 ((must l (nE es)).Rnd J P) ∧ Aside0 (Okm (must l (nE es)) n t J P) ∧ Aside0 (Mid (must l (nE es)) r t J P)) (fun _ i _ => l.length - (intOf i).toNat)
          case atStart => exact ⟨0, false, J, P, rfl, Nat.zero_le _, rfl, hS, hR, ⟨fun _ m hm => by omega⟩, hmid⟩
          case round =>
            clear hS hR hmid
            obtain ⟨n, t, J, P, rfl, hn, rfl, hS, hR, hO1, hmid⟩ := hrel
            have cN : wr.cell? ⟨w.heap.size, 0, none⟩ = some (.slice A l.length c) := (blk_cell (blk_below hXN.out hS.out.bel) 0).trans rfl
            by_cases hlt : n < l.length
            · obtain ⟨ad, ea, a0, a1, a2⟩ := at_N hNn.out n hlt
              subst ea
              replace a0 := (hS.out.bel.cell (World.block_lt_of_cell? w2 _ a0)).trans a0
              replace a1 := (hS.out.bel.cell (World.block_lt_of_cell? w2 _ a1)).trans a1
              replace a2 := (hS.out.bel.cell (World.block_lt_of_cell? w2 _ a2)).trans a2
              have hT := Aside0.mk (hR.out.turn hQk.out (n := n) hlt)
              have hvf := Aside0.mk (fun v => must_flow l (nE es) n v)
              have hvs : Aside0 ((must l (nE es)).start n = ~~~(l.getD n z0).start) := ⟨rfl⟩
              have q0 : (0 : Int) ≤ (n : Int) := by omega
              have q1 : (n : Int) < (l.length : Int) := by omega
              have ap2 := add_plain gA n
              have ap3 := add_plain gB n
              generalize l.getD n z0 = nd at *
              have hnot := Aside0.mk (iv_not nd.start)
              go_wp2_with fail
              go_loopw [14, 15] (fun u14 u15 wx => ∃ q : Nat, u15 = .int .i64 q ∧ q ≤ es.length ∧ wr = wx ∧ u14 = uv ((preds (nE (es.take q)) n).foldl (fun v k => v &&& P.getD k bt) (~~~nd.start))) (fun _ i _ => es.length - (intOf i).toNat)
              case atStart => exact ⟨0, rfl, Nat.zero_le _, rfl, by show _ = uv (~~~nd.start); rw [uv, ← hnot.out]; rfl⟩
              case round =>
                clear hnot
                obtain ⟨q, rfl, hq, rfl, rfl⟩ := hrel
                by_cases hqt : q < es.length
                · obtain ⟨ae, ee, b0, b1⟩ := at_E hE.out q hqt
                  subst ee
                  replace b0 := (hS.out.bel.cell (World.block_lt_of_cell? w2 _ b0)).trans b0
                  replace b1 := (hS.out.bel.cell (World.block_lt_of_cell? w2 _ b1)).trans b1
                  have hx := eOk_at hok.out hqt
                  have hsn := fun x h => Aside0.mk (nE_take es q hqt x h)
                  obtain ⟨x, hxe⟩ : ∃ x, es.getD q (0, 0) = x := ⟨_, rfl⟩
                  rw [hxe] at b0 b1 hx
                  replace hsn := hsn x hxe
                  clear hxe
                  obtain ⟨x1, x2⟩ := x
                  obtain ⟨ha0, ha1, hb0, hb1⟩ := hx
                  simp only at b0 b1 ha0 ha1 hb0 hb1 hsn
                  obtain ⟨sa, rfl⟩ := Int.eq_ofNat_of_zero_le ha0
                  obtain ⟨sb, rfl⟩ := Int.eq_ofNat_of_zero_le hb0
                  simp only [Int.toNat_natCast] at hsn
                  have haN : sa < l.length := by omega
                  have hps := Aside0.mk (preds_snoc (nE (es.take q)) sa sb n)
                  rw [← hsn.out] at hps
                  have aps := add_plain gB sa
                  have hcO : wr.cell? ⟨gB, sa, none⟩ = some (uv (P.getD sa 0)) := us_cell hS.out.bO sa (by rw [hS.out.lO]; exact haN)
                  rw [getD_any P sa 0 bt (by rw [hS.out.lO]; exact haN)] at hcO
                  have hbn := iv_and ((preds (nE (es.take q)) n).foldl (fun v k => v &&& P.getD k bt) (~~~nd.start)) (P.getD sa bt)
                  replace hbn := Aside0.mk hbn
                  by_cases hsb : sb = n
                  · have hs1 : ((sb : Int) == (n : Int)) = true := by rw [hsb]; simp
                    have hpe : Aside0 ((preds (nE (es.take (q + 1))) n).foldl (fun v k => v &&& P.getD k bt) (~~~nd.start) = (preds (nE (es.take q)) n).foldl (fun v k => v &&& P.getD k bt) (~~~nd.start) &&& P.getD sa bt) := ⟨by rw [hps.out, if_pos hsb, List.foldl_append]; rfl⟩
                    generalize (preds (nE (es.take q)) n).foldl (fun v k => v &&& P.getD k bt) (~~~nd.start) = X at *
                    generalize P.getD sa bt = Y at *
                    replace hsb := Aside0.mk hsb
                    go_wp2_with fail
                    go_roundw
                    case rel => exact ⟨q + 1, by go_num, by omega, by first | trivial | rfl, by rw [hpe.out, uv, ← hbn.out]⟩
                    case measure => simp [intOf]; omega
                  · have hs1 : ((sb : Int) == (n : Int)) = false := beq_eq_false_iff_ne.mpr (by omega)
                    have hpe : Aside0 ((preds (nE (es.take (q + 1))) n).foldl (fun v k => v &&& P.getD k bt) (~~~nd.start) = (preds (nE (es.take q)) n).foldl (fun v k => v &&& P.getD k bt) (~~~nd.start)) := ⟨by rw [hps.out, if_neg hsb]⟩
                    replace hsb := Aside0.mk hsb
                    go_wp2_with fail
                    go_roundw
                    case rel => exact ⟨q + 1, by go_num, by omega, by first | trivial | rfl, by rw [hpe.out]⟩
                    case measure => simp [intOf]; omega
                · obtain rfl : q = es.length := by omega
                  rw [List.take_length]
                  have hvi : Aside0 ((must l (nE es)).vin P n = (preds (nE es) n).foldl (fun v k => v &&& P.getD k bt) (~~~nd.start)) := ⟨by rw [vin_eq (must l (nE es)) (nE es) bt rfl hbt.out P n, hvs.out]; rfl⟩
                  rw [← hvi.out]
                  clear hqt hq
                  have hw1 := Aside0.mk (iv_andNot ((must l (nE es)).vin P n) nd.kill)
                  have hw2 := Aside0.mk (iv_or ((must l (nE es)).vin P n &&& ~~~nd.kill) nd.gen)
                  have hw3 := Aside0.mk (hvf.out ((must l (nE es)).vin P n))
                  have hcI : wr.cell? ⟨gA, n, none⟩ = some (uv (J.getD n 0)) := us_cell hS.out.bI n (by rw [hS.out.lI]; exact hlt)
                  have hcO : wr.cell? ⟨gB, n, none⟩ = some (uv (P.getD n 0)) := us_cell hS.out.bO n (by rw [hS.out.lO]; exact hlt)
                  have hrk : Aside0 (P.getD n (must l (nE es)).bot = P.getD n 0 ∧ J.getD n (must l (nE es)).bot = J.getD n 0) := ⟨getD_any _ _ _ _ (by rw [hS.out.lO]; exact hlt), getD_any _ _ _ _ (by rw [hS.out.lI]; exact hlt)⟩
                  generalize J.getD n 0 = x1 at *
                  generalize P.getD n 0 = x2 at *
                  generalize hv : (must l (nE es)).vin P n = v at *
                  replace hv := Aside0.mk hv
                  go_upto_region 27 with (fail)
                  go_quiet (fail)
                  rw [hw1.out, hw2.out, ← hw3.out]
                  generalize hwv : (must l (nE es)).flow n v = wv at *
                  replace hwv := Aside0.mk hwv
                  have hL2 := Aside0.mk (hS.out.below (pw_below_drewN (Below.refl wr.heap.size wr) nq))
                  clear hw1 hw2 hw3 hvi a0 a1 a2 cN
                  have hfI : (wr.drewN nq).frozen? ⟨gA, n, none⟩ = false := blk_frozen hL2.out.bI n
                  have hfO : (wr.drewN nq).frozen? ⟨gB, n, none⟩ = false := blk_frozen hL2.out.bO n
                  replace hcI : (wr.drewN nq).cell? ⟨gA, n, none⟩ = some (uv x1) := hcI
                  replace hcO : (wr.drewN nq).cell? ⟨gB, n, none⟩ = some (uv x2) := hcO
                  generalize wr.drewN nq = wy at *
                  clear hS
                  have hL3 := Aside0.mk ((hL2.out.setI n v).setO n wv)
                  have hcO2 : (wy.setCell ⟨gA, n, none⟩ (uv v)).cell? ⟨gB, n, none⟩ = some (uv x2) := (cell_far (fun e => hL2.out.ne e.symm) _).trans hcO
                  have hfO2 : (wy.setCell ⟨gA, n, none⟩ (uv v)).frozen? ⟨gB, n, none⟩ = false := blk_frozen (hL2.out.setI n v).bO n
                  have hturn : v ≠ x1 ∨ wv ≠ x2 → Aside0 (Mid (must l (nE es)) r true (J.set n v) (P.set n wv)) := fun h => ⟨by have := hT.out.2.2 (by rw [hrk.out.1, hrk.out.2]; exact h); have := hmid.out.1; omega, fun _ => by have := hT.out.2.2 (by rw [hrk.out.1, hrk.out.2]; exact h); have := hmid.out.1; omega⟩
                  by_cases hvI : v = x1
                  · by_cases hwO : wv = x2
                    · have e1 : (iv v != iv x1) = false := by rw [hvI]; simp
                      have e2 : (iv wv != iv x2) = false := by rw [hwO]; simp
                      have hOn : Aside0 (Okm (must l (nE es)) (n + 1) t J P) := ⟨fun ht m hm => by
                        by_cases e : m = n
                        · subst e
                          rw [hv.out, hwv.out, hrk.out.1, hrk.out.2]
                          exact ⟨hvI.symm, hwO.symm⟩
                        · exact hO1.out ht m (by omega)⟩
                      replace hvI := Aside0.mk hvI
                      replace hwO := Aside0.mk hwO
                      clear hturn hL3
                      go_wp2_with fail
                      go_roundw
                      case rel => exact ⟨n + 1, t, J, P, by go_num, by omega, rfl, hL2, hR, hOn, hmid⟩
                      case measure => simp [intOf]; omega
                    · have e1 : (iv v != iv x1) = false := by rw [hvI]; simp
                      have e2 : (iv wv != iv x2) = true := by simpa using fun h => hwO (iv_inj h)
                      have hm2 := hturn (Or.inr hwO)
                      replace hvI := Aside0.mk hvI
                      replace hwO := Aside0.mk hwO
                      clear hturn
                      go_wp2_with fail
                      go_roundw
                      case rel => exact ⟨n + 1, true, _, _, by go_num, by omega, rfl, hL3, ⟨hT.out.1⟩, ⟨fun h => by cases h⟩, hm2⟩
                      case measure => simp [intOf]; omega
                  · have e1 : (iv v != iv x1) = true := by simpa using fun h => hvI (iv_inj h)
                    have hm2 := hturn (Or.inl hvI)
                    replace hvI := Aside0.mk hvI
                    clear hturn
                    go_wp2_with fail
                    go_roundw
                    case rel => exact ⟨n + 1, true, _, _, by go_num, by omega, rfl, hL3, ⟨hT.out.1⟩, ⟨fun h => by cases h⟩, hm2⟩
                    case measure => simp [intOf]; omega
            · obtain rfl : n = l.length := by omega
              have hk1 : Aside0 (1 ≤ kg) := ⟨by have h1 := rs_le hQk.out J; have h2 := rs_le hQk.out P; have h3 := hmid.out.1; have h4 := hkr.out; rw [hS.out.lI] at h1; rw [hS.out.lO] at h2; omega⟩
              have hF2 : Aside0 (Left (must l (nE es)) (kg - 1) t J P) := ⟨⟨fun ht => by have := hmid.out.2 ht; have := hkr.out; have := hk1.out; show 128 * l.length + 1 ≤ _; omega, fun _ => trivial⟩⟩
              go_wp2_with fail
              go_roundg (kg - 1)
              case measure => have := hk1.out; omega
              case rel => exact ⟨_, t, J, P, rfl, rfl, hS, hR, hO1, hF2⟩
theorem must_law {w : World} (A : Option Addr) (l : List Nd) (c : Nat) (hNn : kN.C w A l.length l) (A1 : Option Addr) (es : List (Int × Int)) (c1 : Nat) (hE : kE.C w A1 es.length es) :
    Calls Try.prog 4 #[.slice A l.length c, .slice A1 es.length c1] w fun e w' => e = .returned (.bool true) ∧ Below w.heap.size w w' := by
  by_cases h : 64 < l.length ∨ 256 < es.length
  · exact must_big A _ c A1 _ c1 h (Kd.C_max hNn) (Kd.C_max hE)
  · cases hok : allOk l.length es
    · exact must_no A l c ⟨hNn⟩ A1 es c1 ⟨hE⟩ (by omega) (by omega) hok
    · exact must_yes A l c ⟨hNn⟩ A1 es c1 ⟨hE⟩ (by omega) (by omega) hok
end Go.Proofs.Ytfdhpogpeajifaa.Lat
