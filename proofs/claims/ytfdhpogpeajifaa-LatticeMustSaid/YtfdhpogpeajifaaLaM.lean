/- The least answer by rounds; what is refused; alike rows. -/
import Derived.Test.YtfdhpogpeajifaaLaL
namespace Go.Proofs.Ytfdhpogpeajifaa.Lat
open Go.RowKit Go.Proofs.YtfdhpogpeajifaaW.PrintWords Go.Proofs.YtfdhpogpeajifaaW.PrintLast Go.Proofs.YtfdhpogpeajifaaW.PrintMore Go.Proofs.Ytfdhpogpeajifaa.PLatticeSolves
set_option linter.unusedVariables false
set_option linter.unusedSimpArgs false
/-- Two rows of sets, of the call's own. -/
structure Ls (w wr : World) (N gI gO : Nat) (I O : List V) : Prop where
  bI : wr.heap[gI]? = some (.cells (us I) 29 (0, 0))
  bO : wr.heap[gO]? = some (.cells (us O) 29 (0, 0))
  ne : gI ≠ gO
  hI : w.heap.size ≤ gI
  hO : w.heap.size ≤ gO
  lI : I.length = N
  lO : O.length = N
  bel : Below w.heap.size w wr
section
variable {w wr w1 : World} {N gI gO : Nat} {I O : List V}
theorem Ls.below (h : Ls w wr N gI gO I O) (b : Below wr.heap.size wr w1) : Ls w w1 N gI gO I O :=
  { h with bI := (b.block _ (blk_lt h.bI)).trans h.bI, bO := (b.block _ (blk_lt h.bO)).trans h.bO, bel := below_step h.bel b }
theorem Ls.setI (h : Ls w wr N gI gO I O) (n : Nat) (x : V) : Ls w (wr.setCell ⟨gI, n, none⟩ (uv x)) N gI gO (I.set n x) O :=
  { h with bI := us_set h.bI n x, bO := blk_far h.bO h.ne.symm _, lI := by rw [List.length_set]; exact h.lI, bel := below_set h.bel h.hI }
theorem Ls.setO (h : Ls w wr N gI gO I O) (n : Nat) (x : V) : Ls w (wr.setCell ⟨gO, n, none⟩ (uv x)) N gI gO I (O.set n x) :=
  { h with bI := blk_far h.bI h.ne _, bO := us_set h.bO n x, lO := by rw [List.length_set]; exact h.lO, bel := below_set h.bel h.hO }
theorem Ls.begin (h : Mk2 w wr N gI gO) : Ls w wr N gI gO (zeros N) (zeros N) := ⟨h.a, h.b, h.ne, h.l1, h.l2, by simp [zeros], by simp [zeros], h.bel⟩
end
/-- A list of sets, read as numbers. -/
theorem us_C {w : World} {g : Nat} {l : List V} (h : w.heap[g]? = some (.cells (us l) 29 (0, 0))) (hl : l.length ≤ 1000000) : (Kd.int .u64).C w (some ⟨g, 0, none⟩) l.length (l.map iv) := by
  refine Kd.C_of_reads (d := (0 : Int)) ⟨by simp, by omega, fun _ => ⟨⟨g, 0, none⟩, rfl, fun j hj => ?_⟩⟩
  rw [add_plain, us_cell h j hj]
  simp [List.getD_eq_getElem?_getD, List.getElem?_eq_getElem hj]
theorem same_l0 (l : List Int) (hl : l.length ≤ 1000000) : ∀ (d i : Nat), i + d = l.length → cruciblelaw19_same.l0 (d + 1) l l (i : Int) = some true
  | 0, i, h => by
    unfold cruciblelaw19_same.l0
    rw [if_neg (by omega)]
  | d + 1, i, h => by
    unfold cruciblelaw19_same.l0
    rw [if_pos (by omega), if_pos (by omega), if_pos (by omega), if_pos rfl, show wrap64 ((i : Int) + 1) = ((i + 1 : Nat) : Int) by unfold wrap64; omega]
    exact same_l0 l hl d (i + 1) (by omega)
theorem same_f (l : List Int) (hl : l.length ≤ 1000000) : cruciblelaw19_same.f (l.length + 1) l l = some true := by
  unfold cruciblelaw19_same.f
  rw [if_pos rfl]
  have := same_l0 l hl l.length 0 (by omega)
  simpa using this
/-- Rows that hold the same are the same. -/
theorem same_ {w : World} {g1 g2 N : Nat} {l : List V} (h1 : w.heap[g1]? = some (.cells (us l) 29 (0, 0))) (h2 : w.heap[g2]? = some (.cells (us l) 29 (0, 0))) (hN : l.length = N) (hl : N ≤ 1000000) :
    Calls Try.prog 13 #[.slice (some ⟨g1, 0, none⟩) N N, .slice (some ⟨g2, 0, none⟩) N N] w (RetB (.bool true) w) := by
  subst hN
  have := cruciblelaw19_same.calls (l.length + 1) (some ⟨g1, 0, none⟩) l.length (l.map iv) (some ⟨g2, 0, none⟩) l.length (l.map iv) true w (by rw [List.length_map]; exact us_C h1 hl) (by simp) (by rw [List.length_map]; exact us_C h2 hl) (by simp) (by have := same_f (l.map iv) (by simpa using hl); rwa [List.length_map] at this)
  rw [List.length_map] at this
  exact this.mono fun e w' h => ⟨h.1, h.2.below⟩
/-- Whether a round turned something, so far. -/
def Okm (P : Sys) (n : Nat) (t : Bool) (I O : List V) : Prop := t = false → ∀ m, m < n → I.getD m P.bot = P.vin O m ∧ O.getD m P.bot = P.flow m (P.vin O m)
/-- The round's measure: what is left to rise. -/
def Left (P : Sys) (k : Nat) (t : Bool) (I O : List V) : Prop := (t = true → 128 * P.N + 1 ≤ k + P.rs I + P.rs O) ∧ (t = false → True)
/-- Ahead of node n in a round that began with r in all. -/
def Mid (P : Sys) (r : Nat) (t : Bool) (I O : List V) : Prop := r ≤ P.rs I + P.rs O ∧ (t = true → r < P.rs I + P.rs O)
def RetLst (P : Sys) (w : World) (e : Ending) (w' : World) : Prop :=
  ∃ gI gO I O, e = .returned (.tuple #[.slice (some ⟨gI, 0, none⟩) P.N P.N, .slice (some ⟨gO, 0, none⟩) P.N P.N]) ∧ Ls w w' P.N gI gO I O ∧ P.Lfp I O
theorem may_join (l : List Nd) (E : List (Nat × Nat)) (a b : V) : (may l E).join a b = a ||| b := rfl
theorem may_start (l : List Nd) (E : List (Nat × Nat)) (n : Nat) : (may l E).start n = (l.getD n z0).start := rfl
theorem may_flow (l : List Nd) (E : List (Nat × Nat)) (n : Nat) (v : V) : (may l E).flow n v = (v &&& ~~~ (l.getD n z0).kill) ||| (l.getD n z0).gen := rfl
/-- What may not be is refused. -/
def RetNo (w : World) (e : Ending) (w' : World) : Prop := e = .returned (.tuple #[.slice none 0 0, .slice none 0 0, .int .i64 1]) ∧ Below w.heap.size w w'
set_option maxHeartbeats 8000000 in
set_option maxRecDepth 100000 in
theorem solve_no {w : World} (n : Int) (A : Option Addr) (m c : Nat) (bot : V) (f1 f2 f3 f4 : Value) (most : Int) (b : Bool) (hb : b = false ∨ most < 1)
    (hmay : ∀ W, Below w.heap.size w W → Aside0 (Calls Try.prog 21 #[pv n A m c bot f1 f2 f3 f4] W (RetB (.bool b) W))) :
    Calls Try.prog 9 #[pv n A m c bot f1 f2 f3 f4, .int .i64 most] w (RetNo w) := by
  have hX := Aside0.mk (blk_new w (pb n A m c bot f1 f2 f3 f4))
  have hB : Aside0 (Below w.heap.size w (w.alloc (pb n A m c bot f1 f2 f3 f4))) := ⟨below_alloc (Below.refl _ _) _⟩
  cases b
  · clear hb
    go_enter Try.func9, Try.ntmps9
    go_upto_region 1 with (fail)
    generalize w.alloc (pb n A m c bot f1 f2 f3 f4) = W at *
    have p0 := (blk_cell hX.out 0).trans (show _ = some (.int .i64 n) from rfl)
    have p1 := (blk_cell hX.out 1).trans (show _ = some (.slice A m c) from rfl)
    have p2 := (blk_cell hX.out 2).trans (show _ = some (uv bot) from rfl)
    have p3 := (blk_cell hX.out 3).trans (show _ = some f1 from rfl)
    have p4 := (blk_cell hX.out 4).trans (show _ = some f2 from rfl)
    have p5 := (blk_cell hX.out 5).trans (show _ = some f3 from rfl)
    have p6 := (blk_cell hX.out 6).trans (show _ = some f4 from rfl)
    go_wp2_with (go_at_call 21; (with_reducible refine (hmay _ hB.out).out.mono ?_); rintro e w1 ⟨rfl, hb1⟩; replace hb1 := Aside0.mk hb1)
    go_ret3
    exact ⟨rfl, below_step hB.out hb1.out⟩
  · have hm : most < 1 := by rcases hb with h | h; cases h; exact h
    clear hb
    go_enter Try.func9, Try.ntmps9
    go_upto_region 1 with (fail)
    generalize w.alloc (pb n A m c bot f1 f2 f3 f4) = W at *
    have p0 := (blk_cell hX.out 0).trans (show _ = some (.int .i64 n) from rfl)
    have p1 := (blk_cell hX.out 1).trans (show _ = some (.slice A m c) from rfl)
    have p2 := (blk_cell hX.out 2).trans (show _ = some (uv bot) from rfl)
    have p3 := (blk_cell hX.out 3).trans (show _ = some f1 from rfl)
    have p4 := (blk_cell hX.out 4).trans (show _ = some f2 from rfl)
    have p5 := (blk_cell hX.out 5).trans (show _ = some f3 from rfl)
    have p6 := (blk_cell hX.out 6).trans (show _ = some f4 from rfl)
    go_wp2_with (go_at_call 21; (with_reducible refine (hmay _ hB.out).out.mono ?_); rintro e w1 ⟨rfl, hb1⟩; replace hb1 := Aside0.mk hb1)
    go_ret3
    exact ⟨rfl, below_step hB.out hb1.out⟩
set_option maxHeartbeats 32000000 in
set_option maxRecDepth 100000 in
theorem least_ {w : World} (l : List Nd) (A1 : Option Addr) (c1 : Nat) (hNn : Aside0 (kN.C w A1 l.length l)) (A : Option Addr) (es : List (Int × Int)) (c : Nat) (hE : Aside0 (kE.C w A es.length es)) (hN : l.length ≤ 64) (hes : es.length ≤ 256) (hok : allOk l.length es = true) :
    Calls Try.prog 12 #[.slice A1 l.length c1, .slice A es.length c] w (RetLst (may l (nE es)) w) := by
  have hmk25 := mk25 l.length (by omega)
  replace hok := Aside0.mk hok
  have hQk : Aside0 ((may l (nE es)).Ok) := ⟨may_ok (eok_edges hok.out)⟩
  have hR0 : Aside0 ((may l (nE es)).Rnd (zeros l.length) (zeros l.length)) := ⟨Sys.Rnd.begin hQk.out⟩
  go_enter Try.func12, Try.ntmps12
  go_upto_region 1 with (fail)
  go_cut [4, 5] (fun u4 u5 wx => ∃ gI gO : Nat, u4 = .slice (some ⟨gI, 0, none⟩) l.length l.length ∧ u5 = .slice (some ⟨gO, 0, none⟩) l.length l.length ∧ Aside0 (Mk2 w wx l.length gI gO))
  case first =>
    refine start_ (n := 8) (S := fun w' => True) (ds := []) #[false, false, false, false, false, false, false, false] (by kernel_rfl) rfl rfl (trivial) (fun hHeld => ?_)
    have hb12 : Aside0 (Below w.heap.size w w.drew) := ⟨below_drew (Below.refl _ _)⟩
    generalize w.drew = w2 at *
    refine pure_ (i := 0) (N := some 11) (v := ?_) (a' := ?_) #[true, false, false, false, false, false, false, false] rfl rfl (by kernel_rfl) (fun _ _ _ h => h) (Or.inl ⟨by rfl, ?_⟩) ?_ ?_
    rotate_left
    · intro w'
      go_simp
      try with_reducible rfl
    rotate_left
    · simp only [Act.put, List.setIfInBounds_toArray, List.set_cons_zero, List.set_cons_succ]
      rfl
    refine pure_ (i := 1) (N := some 12) (v := ?_) (a' := ?_) #[true, true, false, false, false, false, false, false] rfl rfl (by kernel_rfl) (fun _ _ _ h => h) (Or.inl ⟨by rfl, ?_⟩) ?_ ?_
    rotate_left
    · intro w'
      go_simp
      try with_reducible rfl
    rotate_left
    · simp only [Act.put, List.setIfInBounds_toArray, List.set_cons_zero, List.set_cons_succ]
      rfl
    refine pure_ (i := 3) (N := some 14) (v := ?_) (a' := ?_) #[true, true, false, true, false, false, false, false] rfl rfl (by kernel_rfl) (fun _ _ _ h => h) (Or.inl ⟨by rfl, ?_⟩) ?_ ?_
    rotate_left
    · intro w'
      go_simp
      try with_reducible rfl
    rotate_left
    · simp only [Act.put, List.setIfInBounds_toArray, List.set_cons_zero, List.set_cons_succ]
      rfl
    refine pure_ (i := 4) (N := some 15) (v := ?_) (a' := ?_) #[true, true, false, true, true, false, false, false] rfl rfl (by kernel_rfl) (fun _ _ _ h => h) (Or.inl ⟨by rfl, ?_⟩) ?_ ?_
    rotate_left
    · intro w'
      go_simp
      try with_reducible rfl
    rotate_left
    · simp only [Act.put, List.setIfInBounds_toArray, List.set_cons_zero, List.set_cons_succ]
      rfl
    refine two_ (i := 2) (j := 5) (Ni := some 13) (Nj := some 16) #[true, true, true, true, true, false, false, false] #[true, true, false, true, true, true, false, false] rfl rfl rfl rfl (by kernel_rfl) (by decide) (by decide) (fun K hK => ?_) (fun K hK => ?_)
    · refine value_ (w1 := w2.alloc (zero l.length)) (v := .slice (some ⟨w2.heap.size, 0, none⟩) l.length l.length) (by rfl) rfl (by go_simp) ?_
      refine hK.out _ _ trivial (fun hHeld => ?_)
      clear hK K
      refine norm_ (a' := ?_) ?_ ?_
      rotate_left
      · simp only [Act.put, List.setIfInBounds_toArray, List.set_cons_zero, List.set_cons_succ]
        rfl
      refine pure_ (i := 6) (N := some 4) (v := ?_) (a' := ?_) #[true, true, true, true, true, false, true, false] rfl rfl (by kernel_rfl) (fun _ _ _ h => h) (Or.inl ⟨by rfl, ?_⟩) ?_ ?_
      rotate_left
      · intro w'
        go_simp
        try with_reducible rfl
      rotate_left
      · simp only [Act.put, List.setIfInBounds_toArray, List.set_cons_zero, List.set_cons_succ]
        rfl
      refine one_ (i := 5) (N := some 16) #[true, true, true, true, true, true, true, false] rfl rfl (by kernel_rfl) (by decide) (fun K hK => ?_)
      refine value_ (w1 := (w2.alloc (zero l.length)).alloc (zero l.length)) (v := .slice (some ⟨w2.heap.size + 1, 0, none⟩) l.length l.length) (by rfl) rfl (by go_simp) ?_
      refine hK.out _ _ trivial (fun hHeld => ?_)
      clear hK K
      refine norm_ (a' := ?_) ?_ ?_
      rotate_left
      · simp only [Act.put, List.setIfInBounds_toArray, List.set_cons_zero, List.set_cons_succ]
        rfl
      refine pure_ (i := 7) (N := some 5) (v := ?_) (a' := ?_) #[true, true, true, true, true, true, true, true] rfl rfl (by kernel_rfl) (fun _ _ _ h => h) (Or.inl ⟨by rfl, ?_⟩) ?_ ?_
      rotate_left
      · intro w'
        go_simp
        try with_reducible rfl
      rotate_left
      · simp only [Act.put, List.setIfInBounds_toArray, List.set_cons_zero, List.set_cons_succ]
        rfl
      refine done_ (by kernel_rfl) ?_
      go_wp2_with fail
      go_meet
      exact ⟨_, _, rfl, rfl, ⟨Mk2.mk' hb12.out⟩⟩
    · refine value_ (w1 := w2.alloc (zero l.length)) (v := .slice (some ⟨w2.heap.size, 0, none⟩) l.length l.length) (by rfl) rfl (by go_simp) ?_
      refine hK.out _ _ trivial (fun hHeld => ?_)
      clear hK K
      refine norm_ (a' := ?_) ?_ ?_
      rotate_left
      · simp only [Act.put, List.setIfInBounds_toArray, List.set_cons_zero, List.set_cons_succ]
        rfl
      refine one_ (i := 2) (N := some 13) #[true, true, true, true, true, true, false, false] rfl rfl (by kernel_rfl) (by decide) (fun K hK => ?_)
      refine value_ (w1 := (w2.alloc (zero l.length)).alloc (zero l.length)) (v := .slice (some ⟨w2.heap.size + 1, 0, none⟩) l.length l.length) (by rfl) rfl (by go_simp) ?_
      refine hK.out _ _ trivial (fun hHeld => ?_)
      clear hK K
      refine norm_ (a' := ?_) ?_ ?_
      rotate_left
      · simp only [Act.put, List.setIfInBounds_toArray, List.set_cons_zero, List.set_cons_succ]
        rfl
      refine pure_ (i := 6) (N := some 4) (v := ?_) (a' := ?_) #[true, true, true, true, true, true, true, false] rfl rfl (by kernel_rfl) (fun _ _ _ h => h) (Or.inl ⟨by rfl, ?_⟩) ?_ ?_
      rotate_left
      · intro w'
        go_simp
        try with_reducible rfl
      rotate_left
      · simp only [Act.put, List.setIfInBounds_toArray, List.set_cons_zero, List.set_cons_succ]
        rfl
      refine pure_ (i := 7) (N := some 5) (v := ?_) (a' := ?_) #[true, true, true, true, true, true, true, true] rfl rfl (by kernel_rfl) (fun _ _ _ h => h) (Or.inl ⟨by rfl, ?_⟩) ?_ ?_
      rotate_left
      · intro w'
        go_simp
        try with_reducible rfl
      rotate_left
      · simp only [Act.put, List.setIfInBounds_toArray, List.set_cons_zero, List.set_cons_succ]
        rfl
      refine done_ (by kernel_rfl) ?_
      go_wp2_with fail
      go_meet
      exact ⟨_, _, rfl, rfl, ⟨(Mk2.mk' hb12.out).swap⟩⟩
  case rest =>
  obtain ⟨gI, gO, rfl, rfl, hM⟩ := hcut
  have hL0 := Aside0.mk (Ls.begin hM.out)
  clear hM hmk25
  go_wp2_with fail
  have hlq : Aside0 (Left (may l (nE es)) (128 * l.length + 1) true (zeros l.length) (zeros l.length)) := ⟨⟨fun _ => by show 128 * l.length + 1 ≤ _; omega, fun _ => trivial⟩⟩
  go_loopg [6] (128 * l.length + 1) (fun kq u6 wr => ∃ (kg : Nat) (t : Bool) (I O : List V), kg = kq ∧ u6 = .bool t ∧ Aside0 (Ls w wr l.length gI gO I O) ∧ Aside0 ((may l (nE es)).Rnd I O) ∧ Aside0 (Okm (may l (nE es)) l.length t I O) ∧ Aside0 (Left (may l (nE es)) kq t I O))
  case atStart => exact ⟨_, true, _, _, rfl, rfl, hL0, hR0, ⟨fun h => by cases h⟩, hlq⟩
  case round =>
    obtain ⟨kg, t, I, O, rfl, rfl, hL, hR, hO, hF⟩ := hrel
    clear hL0 hR0 hlq
    cases t
    · have hfin := Aside0.mk (hR.out.done (hO.out rfl))
      go_wp2_with fail
      go_ret2
      exact ⟨gI, gO, I, O, rfl, hL.out, hfin.out⟩
    · obtain ⟨r, hr⟩ : ∃ r, r = (may l (nE es)).rs I + (may l (nE es)).rs O := ⟨_, rfl⟩
      have hkr : Aside0 (128 * l.length + 1 ≤ kg + r) := ⟨by have : 128 * l.length + 1 ≤ kg + _ + _ := hF.out.1 rfl; omega⟩
      have hmid : Aside0 (Mid (may l (nE es)) r false I O) := ⟨by omega, fun h => by cases h⟩
      clear hF hO hr
      go_wp2_with fail
      go_loopw [6, 7] (fun u6 u7 wr => ∃ (n : Nat) (t : Bool) (I O : List V), u7 = .int .i64 n ∧ n ≤ l.length ∧ u6 = .bool t ∧ Aside0 (Ls w wr l.length gI gO I O) ∧ Aside0 ((may l (nE es)).Rnd I O) ∧ Aside0 (Okm (may l (nE es)) n t I O) ∧ Aside0 (Mid (may l (nE es)) r t I O)) (fun _ i _ => l.length - (intOf i).toNat)
      case atStart => exact ⟨0, false, I, O, rfl, Nat.zero_le _, rfl, hL, hR, ⟨fun _ m hm => by omega⟩, hmid⟩
      case round =>
        obtain ⟨n, t, I, O, rfl, hn, rfl, hL, hR, hO, hmid⟩ := hrel
        by_cases hlt : n < l.length
        · obtain ⟨ad, ea, a0, a1, a2⟩ := at_N hNn.out n hlt
          subst ea
          replace a0 := (hL.out.bel.cell (World.block_lt_of_cell? w _ a0)).trans a0
          replace a1 := (hL.out.bel.cell (World.block_lt_of_cell? w _ a1)).trans a1
          replace a2 := (hL.out.bel.cell (World.block_lt_of_cell? w _ a2)).trans a2
          have hT := Aside0.mk (hR.out.turn hQk.out (n := n) hlt)
          have hvf := Aside0.mk (fun v => may_flow l (nE es) n v)
          have hvs := Aside0.mk (may_start l (nE es) n)
          have q0 : (0 : Int) ≤ (n : Int) := by omega
          have q1 : (n : Int) < (l.length : Int) := by omega
          have ap2 := add_plain gI n
          have ap3 := add_plain gO n
          generalize l.getD n z0 = nd at *
          go_wp2_with fail
          go_loopw [8, 9] (fun u8 u9 wx => ∃ q : Nat, u9 = .int .i64 q ∧ q ≤ es.length ∧ wr = wx ∧ u8 = uv ((preds (nE (es.take q)) n).foldl (fun v k => v ||| O.getD k 0) nd.start)) (fun _ i _ => es.length - (intOf i).toNat)
          case atStart => exact ⟨0, rfl, Nat.zero_le _, rfl, rfl⟩
          case round =>
            obtain ⟨q, rfl, hq, rfl, rfl⟩ := hrel
            by_cases hqt : q < es.length
            · obtain ⟨ae, ee, b0, b1⟩ := at_E hE.out q hqt
              subst ee
              replace b0 := (hL.out.bel.cell (World.block_lt_of_cell? w _ b0)).trans b0
              replace b1 := (hL.out.bel.cell (World.block_lt_of_cell? w _ b1)).trans b1
              have hx := eOk_at hok.out hqt
              have hsn := fun x h => Aside0.mk (nE_take es q hqt x h)
              obtain ⟨x, hxe⟩ : ∃ x, es.getD q (0, 0) = x := ⟨_, rfl⟩
              rw [hxe] at b0 b1 hx
              replace hsn := hsn x hxe
              clear hxe
              obtain ⟨x1, x2⟩ := x
              obtain ⟨ha0, ha1, hb0, hb1⟩ := hx
              simp only at b0 b1 ha0 ha1 hb0 hb1 hsn
              obtain ⟨sa, rfl⟩ := Int.eq_ofNat_of_zero_le ha0
              obtain ⟨sb, rfl⟩ := Int.eq_ofNat_of_zero_le hb0
              simp only [Int.toNat_natCast] at hsn
              have haN : sa < l.length := by omega
              have hps := Aside0.mk (preds_snoc (nE (es.take q)) sa sb n)
              rw [← hsn.out] at hps
              have aps := add_plain gO sa
              have hcO : wr.cell? ⟨gO, sa, none⟩ = some (uv (O.getD sa 0)) := us_cell hL.out.bO sa (by rw [hL.out.lO]; exact haN)
              have hbn := iv_or ((preds (nE (es.take q)) n).foldl (fun v k => v ||| O.getD k 0) nd.start) (O.getD sa 0)
              replace hbn := Aside0.mk hbn
              by_cases hsb : sb = n
              · have hs1 : ((sb : Int) == (n : Int)) = true := by rw [hsb]; simp
                have hpe : Aside0 ((preds (nE (es.take (q + 1))) n).foldl (fun v k => v ||| O.getD k 0) nd.start = (preds (nE (es.take q)) n).foldl (fun v k => v ||| O.getD k 0) nd.start ||| O.getD sa 0) := ⟨by rw [hps.out, if_pos hsb, List.foldl_append]; rfl⟩
                generalize (preds (nE (es.take q)) n).foldl (fun v k => v ||| O.getD k 0) nd.start = X at *
                generalize O.getD sa 0 = Y at *
                replace hsb := Aside0.mk hsb
                go_wp2_with fail
                go_roundw
                case rel => exact ⟨q + 1, by go_num, by omega, by first | trivial | rfl, by rw [hpe.out, uv, ← hbn.out]⟩
                case measure => simp [intOf]; omega
              · have hs1 : ((sb : Int) == (n : Int)) = false := beq_eq_false_iff_ne.mpr (by omega)
                have hpe : Aside0 ((preds (nE (es.take (q + 1))) n).foldl (fun v k => v ||| O.getD k 0) nd.start = (preds (nE (es.take q)) n).foldl (fun v k => v ||| O.getD k 0) nd.start) := ⟨by rw [hps.out, if_neg hsb]⟩
                replace hsb := Aside0.mk hsb
                go_wp2_with fail
                go_roundw
                case rel => exact ⟨q + 1, by go_num, by omega, by first | trivial | rfl, by rw [hpe.out]⟩
                case measure => simp [intOf]; omega
            · obtain rfl : q = es.length := by omega
              rw [List.take_length]
              have hvi : Aside0 ((may l (nE es)).vin O n = (preds (nE es) n).foldl (fun v k => v ||| O.getD k 0) nd.start) := ⟨by rw [vin_eq (may l (nE es)) (nE es) 0 rfl rfl O n, hvs.out]; rfl⟩
              rw [← hvi.out]
              clear hqt hq
              have hw1 := Aside0.mk (iv_andNot ((may l (nE es)).vin O n) nd.kill)
              have hw2 := Aside0.mk (iv_or ((may l (nE es)).vin O n &&& ~~~nd.kill) nd.gen)
              have hw3 := Aside0.mk (hvf.out ((may l (nE es)).vin O n))
              have hcI : wr.cell? ⟨gI, n, none⟩ = some (uv (I.getD n 0)) := us_cell hL.out.bI n (by rw [hL.out.lI]; exact hlt)
              have hcO : wr.cell? ⟨gO, n, none⟩ = some (uv (O.getD n 0)) := us_cell hL.out.bO n (by rw [hL.out.lO]; exact hlt)
              have hrk : Aside0 (O.getD n (may l (nE es)).bot = O.getD n 0 ∧ I.getD n (may l (nE es)).bot = I.getD n 0) := ⟨rfl, rfl⟩
              generalize I.getD n 0 = x1 at *
              generalize O.getD n 0 = x2 at *
              generalize hv : (may l (nE es)).vin O n = v at *
              replace hv := Aside0.mk hv
              go_upto_region 14 with (fail)
              go_quiet (fail)
              rw [hw1.out, hw2.out, ← hw3.out]
              generalize hwv : (may l (nE es)).flow n v = wv at *
              replace hwv := Aside0.mk hwv
              have hL2 := Aside0.mk (hL.out.below (pw_below_drewN (Below.refl wr.heap.size wr) nq))
              clear hw1 hw2 hw3 hvi a0 a1 a2
              have hfI : (wr.drewN nq).frozen? ⟨gI, n, none⟩ = false := blk_frozen hL2.out.bI n
              have hfO : (wr.drewN nq).frozen? ⟨gO, n, none⟩ = false := blk_frozen hL2.out.bO n
              replace hcI : (wr.drewN nq).cell? ⟨gI, n, none⟩ = some (uv x1) := hcI
              replace hcO : (wr.drewN nq).cell? ⟨gO, n, none⟩ = some (uv x2) := hcO
              generalize wr.drewN nq = wy at *
              clear hL
              have hL3 := Aside0.mk ((hL2.out.setI n v).setO n wv)
              have hcO2 : (wy.setCell ⟨gI, n, none⟩ (uv v)).cell? ⟨gO, n, none⟩ = some (uv x2) := (cell_far (fun e => hL2.out.ne e.symm) _).trans hcO
              have hfO2 : (wy.setCell ⟨gI, n, none⟩ (uv v)).frozen? ⟨gO, n, none⟩ = false := blk_frozen (hL2.out.setI n v).bO n
              have hturn : v ≠ x1 ∨ wv ≠ x2 → Aside0 (Mid (may l (nE es)) r true (I.set n v) (O.set n wv)) := fun h => ⟨by have := hT.out.2.2 (by rw [hrk.out.1, hrk.out.2]; exact h); have := hmid.out.1; omega, fun _ => by have := hT.out.2.2 (by rw [hrk.out.1, hrk.out.2]; exact h); have := hmid.out.1; omega⟩
              by_cases hvI : v = x1
              · by_cases hwO : wv = x2
                · have e1 : (iv v != iv x1) = false := by rw [hvI]; simp
                  have e2 : (iv wv != iv x2) = false := by rw [hwO]; simp
                  have hOn : Aside0 (Okm (may l (nE es)) (n + 1) t I O) := ⟨fun ht m hm => by
                    by_cases e : m = n
                    · subst e
                      rw [hv.out, hwv.out, hrk.out.1, hrk.out.2]
                      exact ⟨hvI.symm, hwO.symm⟩
                    · exact hO.out ht m (by omega)⟩
                  replace hvI := Aside0.mk hvI
                  replace hwO := Aside0.mk hwO
                  clear hturn hL3
                  go_wp2_with fail
                  go_roundw
                  case rel => exact ⟨n + 1, t, I, O, by go_num, by omega, rfl, hL2, hR, hOn, hmid⟩
                  case measure => simp [intOf]; omega
                · have e1 : (iv v != iv x1) = false := by rw [hvI]; simp
                  have e2 : (iv wv != iv x2) = true := by simpa using fun h => hwO (iv_inj h)
                  have hm2 := hturn (Or.inr hwO)
                  replace hvI := Aside0.mk hvI
                  replace hwO := Aside0.mk hwO
                  clear hturn
                  go_wp2_with fail
                  go_roundw
                  case rel => exact ⟨n + 1, true, _, _, by go_num, by omega, rfl, hL3, ⟨hT.out.1⟩, ⟨fun h => by cases h⟩, hm2⟩
                  case measure => simp [intOf]; omega
              · have e1 : (iv v != iv x1) = true := by simpa using fun h => hvI (iv_inj h)
                have hm2 := hturn (Or.inl hvI)
                replace hvI := Aside0.mk hvI
                clear hturn
                go_wp2_with fail
                go_roundw
                case rel => exact ⟨n + 1, true, _, _, by go_num, by omega, rfl, hL3, ⟨hT.out.1⟩, ⟨fun h => by cases h⟩, hm2⟩
                case measure => simp [intOf]; omega
        · obtain rfl : n = l.length := by omega
          have hk1 : Aside0 (1 ≤ kg) := ⟨by have h1 := rs_le hQk.out I; have h2 := rs_le hQk.out O; have h3 := hmid.out.1; have h4 := hkr.out; rw [hL.out.lI] at h1; rw [hL.out.lO] at h2; omega⟩
          have hF2 : Aside0 (Left (may l (nE es)) (kg - 1) t I O) := ⟨⟨fun ht => by have := hmid.out.2 ht; have := hkr.out; have := hk1.out; show 128 * l.length + 1 ≤ _; omega, fun _ => trivial⟩⟩
          go_wp2_with fail
          go_roundg (kg - 1)
          case measure => have := hk1.out; omega
          case rel => exact ⟨_, t, I, O, rfl, rfl, hL, hR, hO, hF2⟩
end Go.Proofs.Ytfdhpogpeajifaa.Lat
