/- The layout of lines: its state, and place's walk. -/
import Derived.Test.YtdhmnjoceeolcaaAsB
import Derived.StillTailTactics
namespace Go.Proofs.Ytdhmnjoceeolcaa.Asm
open Go.RowKit Go.Proofs.YtdhmnjoceeolcaaW.PrintWords Go.Proofs.YtdhmnjoceeolcaaW.PrintLast Go.Proofs.YtdhmnjoceeolcaaW.PrintMore Go.Proofs.Ytdhmnjoceeolcaa.GF
set_option linter.unusedVariables false
set_option linter.unusedSimpArgs false
abbrev PP (b : Nat) : Value := .pointer (some ⟨b, 0, none⟩)
def is (l : List Int) : Array Value := (l.map (Value.int .i64)).toArray
def bs (l : List Bool) : Array Value := (l.map Value.bool).toArray
theorem is_cell {w : World} {g : Nat} {l : List Int} (h : w.heap[g]? = some (.cells (is l) 3 (0, 0))) (i : Nat) (hi : i < l.length) : w.cell? ⟨g, i, none⟩ = some (.int .i64 (l.getD i 0)) := by
  rw [blk_cell h i]
  simp [is, List.getD_eq_getElem?_getD, List.getElem?_eq_getElem hi]
theorem is_set {w : World} {g : Nat} {l : List Int} (h : w.heap[g]? = some (.cells (is l) 3 (0, 0))) (i : Nat) (x : Int) : (w.setCell ⟨g, i, none⟩ (.int .i64 x)).heap[g]? = some (.cells (is (l.set i x)) 3 (0, 0)) := by
  rw [blk_set h i (.int .i64 x)]; simp [is, List.map_set]
theorem bs_cell {w : World} {g : Nat} {l : List Bool} (h : w.heap[g]? = some (.cells (bs l) 4 (0, 0))) (i : Nat) (hi : i < l.length) : w.cell? ⟨g, i, none⟩ = some (.bool (l.getD i false)) := by
  rw [blk_cell h i]
  simp [bs, List.getD_eq_getElem?_getD, List.getElem?_eq_getElem hi]
theorem bs_set {w : World} {g : Nat} {l : List Bool} (h : w.heap[g]? = some (.cells (bs l) 4 (0, 0))) (i : Nat) (x : Bool) : (w.setCell ⟨g, i, none⟩ (.bool x)).heap[g]? = some (.cells (bs (l.set i x)) 4 (0, 0)) := by
  rw [blk_set h i (.bool x)]; simp [bs, List.map_set]
/-- How many words a line has. -/
def szV (x : S37) (b : Bool) : Int := if 0 < x.f0 then 0 else if b = true then 2 else 1
/-- Where a line begins. -/
def atV (l : List S37) (g : List Bool) : Nat → Int
  | 0 => 0
  | i + 1 => atV l g i + szV (l.getD i z37) (g.getD i false)
/-- Where labels stand. -/
def whM (l : List S37) (g : List Bool) (m : Mm) : Nat → Mm
  | 0 => m
  | i + 1 => if 0 < (l.getD i z37).f0 then up (whM l g m i) (l.getD i z37).f0 (atV l g i) else whM l g m i
theorem szV_range (x : S37) (b : Bool) : 0 ≤ szV x b ∧ szV x b ≤ 2 := by unfold szV; split; omega; split <;> omega
theorem atV_range (l : List S37) (g : List Bool) : ∀ i, 0 ≤ atV l g i ∧ atV l g i ≤ 2 * i
  | 0 => ⟨Int.le_refl _, Int.le_refl _⟩
  | i + 1 => by
    have := atV_range l g i
    have := szV_range (l.getD i z37) (g.getD i false)
    unfold atV
    omega
def ats (l : List S37) (g : List Bool) : List Int := (List.range (l.length + 1)).map (atV l g)
theorem ats_len (l : List S37) (g : List Bool) : (ats l g).length = l.length + 1 := by simp [ats]
theorem ats_at (l : List S37) (g : List Bool) (i : Nat) (h : i < l.length + 1) : (ats l g).getD i 0 = atV l g i := by
  simp [ats, List.getD_eq_getElem?_getD, h]
theorem ats_of (l : List S37) (g : List Bool) (a : List Int) (h : a.length = l.length + 1) (k : ∀ i, i < l.length + 1 → a.getD i 0 = atV l g i) : a = ats l g := by
  apply List.ext_getElem (by rw [h, ats_len])
  intro i h1 h2
  have := k i (by omega)
  rw [← ats_at l g i (by omega)] at this
  rwa [List.getD_eq_getElem?_getD, List.getElem?_eq_getElem h1, List.getD_eq_getElem?_getD, List.getElem?_eq_getElem h2] at this
/-- A layout in memory. -/
structure Ly (w wr : World) (n p ga gl m : Nat) (a : List Int) (g : List Bool) (es : Mm) : Prop where
  bp : wr.heap[p]? = some (.cells #[.slice (some ⟨ga, 0, none⟩) (n + 1) (n + 1), .slice (some ⟨gl, 0, none⟩) n n, .map (some m)] 50 (0, 0))
  ba : wr.heap[ga]? = some (.cells (is a) 3 (0, 0))
  bl : wr.heap[gl]? = some (.cells (bs g) 4 (0, 0))
  mp : Mp wr m es
  hp : w.heap.size ≤ p
  ha : w.heap.size ≤ ga
  hl : w.heap.size ≤ gl
  hm : w.heap.size ≤ m
  la : a.length = n + 1
  lg : g.length = n
  bel : Below w.heap.size w wr
section
variable {w wr w1 : World} {n p ga gl m : Nat} {a : List Int} {g : List Bool} {es : Mm}
theorem Ly.below (h : Ly w wr n p ga gl m a g es) (b : Below wr.heap.size wr w1) : Ly w w1 n p ga gl m a g es :=
  { h with bp := blk_below h.bp b, ba := blk_below h.ba b, bl := blk_below h.bl b, mp := h.mp.below b, bel := below_step h.bel b }
theorem Ly.setA (h : Ly w wr n p ga gl m a g es) (i : Nat) (x : Int) : Ly w (wr.setCell ⟨ga, i, none⟩ (.int .i64 x)) n p ga gl m (a.set i x) g es :=
  { h with bp := blk_far h.bp (blk_ne h.bp h.ba (by decide)) _, ba := is_set h.ba i x, bl := blk_far h.bl (blk_ne h.bl h.ba (by decide)) _, mp := h.mp.keep (Below.heap_setCell _ _ _ _ (fun e => (h.mp.cells h.ba) e.symm)), la := by rw [List.length_set]; exact h.la, bel := below_set h.bel h.ha }
theorem Ly.setL (h : Ly w wr n p ga gl m a g es) (i : Nat) (x : Bool) : Ly w (wr.setCell ⟨gl, i, none⟩ (.bool x)) n p ga gl m a (g.set i x) es :=
  { h with bp := blk_far h.bp (blk_ne h.bp h.bl (by decide)) _, ba := blk_far h.ba (blk_ne h.ba h.bl (by decide)) _, bl := bs_set h.bl i x, mp := h.mp.keep (Below.heap_setCell _ _ _ _ (fun e => (h.mp.cells h.bl) e.symm)), lg := by rw [List.length_set]; exact h.lg, bel := below_set h.bel h.hl }
theorem Ly.put (h : Ly w wr n p ga gl m a g es) (k x : Int) : Ly w (putM wr m k x) n p ga gl m a g (up es k x) :=
  { h with bp := (put_block h.mp k x _ (h.mp.cells h.bp)).trans h.bp, ba := (put_block h.mp k x _ (h.mp.cells h.ba)).trans h.ba, bl := (put_block h.mp k x _ (h.mp.cells h.bl)).trans h.bl, mp := put_mp h.mp k x, bel := put_below h.bel h.mp h.hm k x }
end
theorem size_some (x : S37) (b : Bool) : asm_size.f x.f0 x.f1.f0 x.f1.f1 x.f1.f2 x.f1.f3 x.f1.f4 x.f2 b = some (szV x b) := by
  unfold asm_size.f szV
  by_cases h : 0 < x.f0
  · rw [if_pos h, if_pos h]
  · rw [if_neg h, if_neg h]; split <;> rfl
set_option maxHeartbeats 16000000 in
set_option maxRecDepth 100000 in
theorem place_calls {w w0 : World} {A : Option Addr} {l : List S37} {c : Nat} (hL : Aside0 (Kd.C k37 w A l.length l)) (hlen : l.length ≤ 262144) {p ga gl m : Nat} {a : List Int} {g : List Bool} {es : Mm} (hY : Aside0 (Ly w w0 l.length p ga gl m a g es)) :
    Calls Try.prog 28 #[PP p, .slice A l.length c] w0 fun e w' => e = .returned (.tuple #[]) ∧ Ly w w' l.length p ga gl m (ats l g) g (whM l g es l.length) := by
  go_enter Try.func28, Try.ntmps28
  go_wp2_with fail
  go_loopw [4, 9] (fun u4 u9 wr => ∃ (i : Nat) (a' : List Int) (es' : Mm), i ≤ l.length ∧ u4 = .int .i64 (atV l g i) ∧ u9 = .int .i64 i ∧ Aside0 (Ly w wr l.length p ga gl m a' g es') ∧ Aside0 (∀ j, j < i → a'.getD j 0 = atV l g j) ∧ Aside0 (es' = whM l g es i)) (fun _ u _ => l.length - (intOf u).toNat)
  case atStart => exact ⟨0, _, _, Nat.zero_le _, rfl, rfl, hY, ⟨fun j hj => by omega⟩, ⟨rfl⟩⟩
  case round =>
    clear hY
    obtain ⟨i, a', es', hi, rfl, rfl, hY, ha, hes⟩ := hrel
    have hr1 := (atV_range l g i).1
    have hr2 := (atV_range l g i).2
    by_cases hlt : i < l.length
    · obtain ⟨ad, ea, a0, a1, a2, a3, a4, a5, a6⟩ := at_T37 (Kd.C_below hL.out hY.out.bel) (i : Int) (by omega) (by omega)
      subst ea
      simp only [Int.toNat_natCast, rd_L] at a0 a1 a2 a3 a4 a5 a6
      have hat : Aside0 (atV l g (i + 1) = atV l g i + szV (l.getD i z37) (g.getD i false)) := ⟨rfl⟩
      have hwh : Aside0 (whM l g es (i + 1) = if 0 < (l.getD i z37).f0 then up (whM l g es i) (l.getD i z37).f0 (atV l g i) else whM l g es i) := ⟨rfl⟩
      obtain ⟨bb, hbe⟩ : ∃ bb, Aside0 (g.getD i false = bb) := ⟨_, ⟨rfl⟩⟩
      rw [hbe.out] at hat
      have hX := Aside0.mk (blk_new wr (lb (l.getD i z37)))
      replace hY := Aside0.mk (hY.out.below (below_alloc (Below.refl wr.heap.size wr) (lb (l.getD i z37))))
      have hXn : Aside0 (wr.heap.size < (wr.alloc (lb (l.getD i z37))).heap.size) := ⟨by simp⟩
      have hga : Aside0 (ga ≠ wr.heap.size) := ⟨fun e => by have := hY.out.ba; rw [e, hX.out] at this; have := (Option.some.inj this); injection this with h1 h2; exact absurd h2 (by decide)⟩
      have q0 : (0 : Int) ≤ (i : Int) := by omega
      have q1 : (i : Int) < (l.length : Int) := by omega
      have q2 : (i : Int) < (l.length : Int) + 1 := by omega
      have ap1 := add_plain ga i
      have ap2 := add_plain gl i
      have hsz := Aside0.mk (size_some (l.getD i z37) bb)
      have hs1 := (szV_range (l.getD i z37) bb).1
      have hs2 := (szV_range (l.getD i z37) bb).2
      generalize l.getD i z37 = x at *
      go_upto_region 4 with (fail)
      generalize wr.alloc (lb x) = W at *
      generalize wr.heap.size = xb at *
      have y0 := (blk_cell hY.out.bp 0).trans (show _ = some (.slice (some ⟨ga, 0, none⟩) (l.length + 1) (l.length + 1)) from rfl)
      have y1 := (blk_cell hY.out.bp 1).trans (show _ = some (.slice (some ⟨gl, 0, none⟩) l.length l.length) from rfl)
      have y2 := (blk_cell hY.out.bp 2).trans (show _ = some (.map (some m)) from rfl)
      have hca : W.cell? ⟨ga, i, none⟩ = some (.int .i64 (a'.getD i 0)) := is_cell hY.out.ba i (by rw [hY.out.la]; omega)
      have hfa : W.frozen? ⟨ga, i, none⟩ = false := blk_frozen hY.out.ba i
      go_upto_region 5 with (fail)
      replace hX := Aside0.mk (blk_far hX.out (p := ⟨ga, i, none⟩) (fun e => hga.out e.symm) (.int .i64 (atV l g i)))
      replace hY := Aside0.mk (hY.out.setA i (atV l g i))
      have ha2 : Aside0 (∀ j, j < i + 1 → (a'.set i (atV l g i)).getD j 0 = atV l g j) := ⟨fun j hj => by
        by_cases e : j = i
        · subst e
          have hl : j < a'.length := by have := hY.out.la; rw [List.length_set] at this; omega
          rw [List.getD_eq_getElem?_getD, List.getElem?_set_self hl]; rfl
        · rw [List.getD_eq_getElem?_getD, List.getElem?_set_ne (fun h => e h.symm), ← List.getD_eq_getElem?_getD]; exact ha.out j (by omega)⟩
      generalize W.setCell ⟨ga, i, none⟩ (.int .i64 (atV l g i)) = W5 at *
      clear y0 y1 y2 hca hfa ha
      generalize a'.set i (atV l g i) = a2 at *
      have p0 := (blk_cell hX.out 0).trans (show _ = some (.int .i64 x.f0) from rfl)
      have p1 := (blk_cell hX.out 1).trans (show _ = some (.int .i64 x.f1.f0) from rfl)
      have p2 := (blk_cell hX.out 2).trans (show _ = some (.int .i64 x.f1.f1) from rfl)
      have p3 := (blk_cell hX.out 3).trans (show _ = some (.int .i64 x.f1.f2) from rfl)
      have p4 := (blk_cell hX.out 4).trans (show _ = some (.int .i64 x.f1.f3) from rfl)
      have p5 := (blk_cell hX.out 5).trans (show _ = some (.int .i32 x.f1.f4) from rfl)
      have p6 := (blk_cell hX.out 6).trans (show _ = some (.int .i64 x.f2) from rfl)
      have hwr : IntKind.i64.wrap (atV l g i + szV x bb) = atV l g i + szV x bb := IntWalk.i64_in _ (by omega)
      rw [← hes.out] at hwh
      by_cases hx0 : 0 < x.f0
      · rw [if_pos hx0] at hwh
        have y2 := (blk_cell hY.out.bp 2).trans (show _ = some (.map (some m)) from rfl)
        go_upto_region 6 with (fail)
        go_still_tail 7, (by kernel_rfl)
        change wpList _ _ _ _ _ W5.drew
        replace hX : Aside0 (W5.drew.heap[xb]? = _) := ⟨hX.out⟩
        replace hY := Aside0.mk (hY.out.below (below_drew (Below.refl _ _)))
        generalize W5.drew = W6 at *
        have hpt := put hY.out.mp x.f0 (atV l g i)
        have hXm : Aside0 ((putM W6 m x.f0 (atV l g i)).heap[xb]? = _) := ⟨(put_block hY.out.mp x.f0 (atV l g i) xb (hY.out.mp.cells hX.out)).trans hX.out⟩
        replace hY := Aside0.mk (hY.out.put x.f0 (atV l g i))
        replace hes : Aside0 (up es' x.f0 (atV l g i) = whM l g es (i + 1)) := ⟨hwh.out.symm⟩
        clear hX y2 p0 p1 p2 p3 p4 p5 p6
        go_upto_region 7 with (fail)
        generalize putM W6 m x.f0 (atV l g i) = W7 at *
        clear hpt
        have hX := hXm
        have p0 := (blk_cell hX.out 0).trans (show _ = some (.int .i64 x.f0) from rfl)
        have p1 := (blk_cell hX.out 1).trans (show _ = some (.int .i64 x.f1.f0) from rfl)
        have p2 := (blk_cell hX.out 2).trans (show _ = some (.int .i64 x.f1.f1) from rfl)
        have p3 := (blk_cell hX.out 3).trans (show _ = some (.int .i64 x.f1.f2) from rfl)
        have p4 := (blk_cell hX.out 4).trans (show _ = some (.int .i64 x.f1.f3) from rfl)
        have p5 := (blk_cell hX.out 5).trans (show _ = some (.int .i32 x.f1.f4) from rfl)
        have p6 := (blk_cell hX.out 6).trans (show _ = some (.int .i64 x.f2) from rfl)
        have y1 := (blk_cell hY.out.bp 1).trans (show _ = some (.slice (some ⟨gl, 0, none⟩) l.length l.length) from rfl)
        have hcl := bs_cell hY.out.bl i (by rw [hY.out.lg]; exact hlt)
        rw [hbe.out] at hcl
        go_upto_region 7 with (fail)
        refine start_ (n := 12) (S := fun w' => w'.cell? ⟨xb, 0, none⟩ = some (.int .i64 x.f0) ∧ w'.cell? ⟨xb, 1, none⟩ = some (.int .i64 x.f1.f0) ∧ w'.cell? ⟨xb, 2, none⟩ = some (.int .i64 x.f1.f1) ∧ w'.cell? ⟨xb, 3, none⟩ = some (.int .i64 x.f1.f2) ∧ w'.cell? ⟨xb, 4, none⟩ = some (.int .i64 x.f1.f3) ∧ w'.cell? ⟨xb, 5, none⟩ = some (.int .i32 x.f1.f4) ∧ w'.cell? ⟨xb, 6, none⟩ = some (.int .i64 x.f2) ∧ w'.cell? ⟨p, 1, none⟩ = some (.slice (some ⟨gl, 0, none⟩) l.length l.length) ∧ w'.cell? ⟨gl, i, none⟩ = some (.bool bb)) (ds := []) #[false, false, false, false, false, false, false, false, false, false, false, false] (by kernel_rfl) rfl rfl (⟨(blk_cell hX.out 0).trans rfl, (blk_cell hX.out 1).trans rfl, (blk_cell hX.out 2).trans rfl, (blk_cell hX.out 3).trans rfl, (blk_cell hX.out 4).trans rfl, (blk_cell hX.out 5).trans rfl, (blk_cell hX.out 6).trans rfl, (blk_cell hY.out.bp 1).trans rfl, (bs_cell hY.out.bl i (by rw [hY.out.lg]; exact hlt)).trans (by rw [hbe.out])⟩) (fun hHeld => ?_)
        replace hX : Aside0 (W7.drew.heap[xb]? = _) := ⟨hX.out⟩
        replace hY := Aside0.mk (hY.out.below (below_drew (Below.refl _ _)))
        clear p0 p1 p2 p3 p4 p5 p6 y1 hcl
        generalize W7.drew = W9 at *
        refine pure_ (i := 0) (N := some 31) (v := ?_) (a' := ?_) #[true, false, false, false, false, false, false, false, false, false, false, false] rfl rfl (by kernel_rfl) (fun _ _ _ h => h) (Or.inl ⟨by rfl, ?_⟩) ?_ ?_
        rotate_left
        · intro w'
          go_simp
          try with_reducible rfl
        rotate_left
        · simp only [Act.put, List.setIfInBounds_toArray, List.set_cons_zero, List.set_cons_succ]
          rfl
        refine take_ (i := 1) (N := some 32) (v := ?_) (a' := ?_) #[true, true, false, false, false, false, false, false, false, false, false, false] rfl rfl (by kernel_rfl) (fun _ _ _ h => h) (Or.inl ⟨by rfl, ?_⟩) hHeld ?_ ?_
        rotate_left
        · intro w' s0
          obtain ⟨s0_, s1_, s2_, s3_, s4_, s5_, s6_, s7_, s8_⟩ := s0
          go_simp
          try with_reducible rfl
        rotate_left
        · simp only [Act.put, List.setIfInBounds_toArray, List.set_cons_zero, List.set_cons_succ]
          rfl
        refine pure_ (i := 2) (N := some 33) (v := ?_) (a' := ?_) #[true, true, true, false, false, false, false, false, false, false, false, false] rfl rfl (by kernel_rfl) (fun _ _ _ h => h) (Or.inl ⟨by rfl, ?_⟩) ?_ ?_
        rotate_left
        · intro w'
          go_simp
          try with_reducible rfl
        rotate_left
        · simp only [Act.put, List.setIfInBounds_toArray, List.set_cons_zero, List.set_cons_succ]
          rfl
        refine pure_ (i := 3) (N := some 34) (v := ?_) (a' := ?_) #[true, true, true, true, false, false, false, false, false, false, false, false] rfl rfl (by kernel_rfl) (fun _ _ _ h => h) (Or.inl ⟨by rfl, ?_⟩) ?_ ?_
        rotate_left
        · intro w'
          go_simp
          try with_reducible rfl
        rotate_left
        · simp only [Act.put, List.setIfInBounds_toArray, List.set_cons_zero, List.set_cons_succ]
          rfl
        refine pure_ (i := 4) (N := some 35) (v := ?_) (a' := ?_) #[true, true, true, true, true, false, false, false, false, false, false, false] rfl rfl (by kernel_rfl) (fun _ _ _ h => h) (Or.inl ⟨by rfl, ?_⟩) ?_ ?_
        rotate_left
        · intro w'
          go_simp
          try with_reducible rfl
        rotate_left
        · simp only [Act.put, List.setIfInBounds_toArray, List.set_cons_zero, List.set_cons_succ]
          rfl
        refine take_ (i := 5) (N := some 36) (v := ?_) (a' := ?_) #[true, true, true, true, true, true, false, false, false, false, false, false] rfl rfl (by kernel_rfl) (fun _ _ _ h => h) (Or.inl ⟨by rfl, ?_⟩) hHeld ?_ ?_
        rotate_left
        · intro w' s0
          obtain ⟨s0_, s1_, s2_, s3_, s4_, s5_, s6_, s7_, s8_⟩ := s0
          go_simp
          try with_reducible rfl
        rotate_left
        · simp only [Act.put, List.setIfInBounds_toArray, List.set_cons_zero, List.set_cons_succ]
          rfl
        refine pure_ (i := 6) (N := some 37) (v := ?_) (a' := ?_) #[true, true, true, true, true, true, true, false, false, false, false, false] rfl rfl (by kernel_rfl) (fun _ _ _ h => h) (Or.inl ⟨by rfl, ?_⟩) ?_ ?_
        rotate_left
        · intro w'
          go_simp
          try with_reducible rfl
        rotate_left
        · simp only [Act.put, List.setIfInBounds_toArray, List.set_cons_zero, List.set_cons_succ]
          rfl
        refine pure_ (i := 7) (N := some 38) (v := ?_) (a' := ?_) #[true, true, true, true, true, true, true, true, false, false, false, false] rfl rfl (by kernel_rfl) (fun _ _ _ h => h) (Or.inl ⟨by rfl, ?_⟩) ?_ ?_
        rotate_left
        · intro w'
          go_simp
          try with_reducible rfl
        rotate_left
        · simp only [Act.put, List.setIfInBounds_toArray, List.set_cons_zero, List.set_cons_succ]
          rfl
        refine take_ (i := 8) (N := some 39) (v := ?_) (a' := ?_) #[true, true, true, true, true, true, true, true, true, false, false, false] rfl rfl (by kernel_rfl) (fun _ _ _ h => h) (Or.inl ⟨by rfl, ?_⟩) hHeld ?_ ?_
        rotate_left
        · intro w' s0
          obtain ⟨s0_, s1_, s2_, s3_, s4_, s5_, s6_, s7_, s8_⟩ := s0
          go_simp
          try with_reducible rfl
        rotate_left
        · simp only [Act.put, List.setIfInBounds_toArray, List.set_cons_zero, List.set_cons_succ]
          rfl
        refine one_ (i := 9) (N := some 40) #[true, true, true, true, true, true, true, true, true, true, false, false] rfl rfl (by kernel_rfl) (by decide) (fun K hK => ?_)
        refine call_ 36 #[.agg #[.int .i64 x.f0, .int .i64 x.f1.f0, .int .i64 x.f1.f1, .int .i64 x.f1.f2, .int .i64 x.f1.f3, .int .i32 x.f1.f4, .int .i64 x.f2], .bool bb] (by rfl) rfl (by go_simp) ?_
        refine (asm_size.calls _ _ _ _ _ _ _ bb _ _ hsz.out).mono ?_
        rintro e w1 ⟨rfl, hb1⟩
        replace hb1 := Aside0.mk hb1
        refine ⟨_, rfl, ?_⟩
        refine hK.out _ _ ⟨(blk_cell (blk_below hX.out hb1.out) 0).trans rfl, (blk_cell (blk_below hX.out hb1.out) 1).trans rfl, (blk_cell (blk_below hX.out hb1.out) 2).trans rfl, (blk_cell (blk_below hX.out hb1.out) 3).trans rfl, (blk_cell (blk_below hX.out hb1.out) 4).trans rfl, (blk_cell (blk_below hX.out hb1.out) 5).trans rfl, (blk_cell (blk_below hX.out hb1.out) 6).trans rfl, (blk_cell (hY.out.below hb1.out).bp 1).trans rfl, (bs_cell (hY.out.below hb1.out).bl i (by rw [hY.out.lg]; exact hlt)).trans (by rw [hbe.out])⟩ (fun hHeld => ?_)
        clear hK K
        refine norm_ (a' := ?_) ?_ ?_
        rotate_left
        · simp only [Act.put, List.setIfInBounds_toArray, List.set_cons_zero, List.set_cons_succ]
          rfl
        refine pure_ (i := 10) (N := some 41) (v := ?_) (a' := ?_) #[true, true, true, true, true, true, true, true, true, true, true, false] rfl rfl (by kernel_rfl) (fun _ _ _ h => h) (Or.inl ⟨by rfl, ?_⟩) ?_ ?_
        rotate_left
        · intro w'
          go_simp
          try with_reducible rfl
        rotate_left
        · simp only [Act.put, List.setIfInBounds_toArray, List.set_cons_zero, List.set_cons_succ]
          rfl
        refine pure_ (i := 11) (N := some 4) (v := ?_) (a' := ?_) #[true, true, true, true, true, true, true, true, true, true, true, true] rfl rfl (by kernel_rfl) (fun _ _ _ h => h) (Or.inl ⟨by rfl, ?_⟩) ?_ ?_
        rotate_left
        · intro w'
          go_simp
          try with_reducible rfl
        rotate_left
        · simp only [Act.put, List.setIfInBounds_toArray, List.set_cons_zero, List.set_cons_succ]
          rfl
        refine done_ (by kernel_rfl) ?_
        go_wp2_with fail
        go_roundw
        case rel => exact ⟨i + 1, _, _, by omega, by rw [hat.out], by go_num, ⟨hY.out.below hb1.out⟩, ha2, hes⟩
        case measure => simp [intOf]; omega
      · rw [if_neg hx0] at hwh
        replace hes : Aside0 (es' = whM l g es (i + 1)) := ⟨hwh.out.symm⟩
        have y1 := (blk_cell hY.out.bp 1).trans (show _ = some (.slice (some ⟨gl, 0, none⟩) l.length l.length) from rfl)
        have hcl := bs_cell hY.out.bl i (by rw [hY.out.lg]; exact hlt)
        rw [hbe.out] at hcl
        go_upto_region 7 with (fail)
        refine start_ (n := 12) (S := fun w' => w'.cell? ⟨xb, 0, none⟩ = some (.int .i64 x.f0) ∧ w'.cell? ⟨xb, 1, none⟩ = some (.int .i64 x.f1.f0) ∧ w'.cell? ⟨xb, 2, none⟩ = some (.int .i64 x.f1.f1) ∧ w'.cell? ⟨xb, 3, none⟩ = some (.int .i64 x.f1.f2) ∧ w'.cell? ⟨xb, 4, none⟩ = some (.int .i64 x.f1.f3) ∧ w'.cell? ⟨xb, 5, none⟩ = some (.int .i32 x.f1.f4) ∧ w'.cell? ⟨xb, 6, none⟩ = some (.int .i64 x.f2) ∧ w'.cell? ⟨p, 1, none⟩ = some (.slice (some ⟨gl, 0, none⟩) l.length l.length) ∧ w'.cell? ⟨gl, i, none⟩ = some (.bool bb)) (ds := []) #[false, false, false, false, false, false, false, false, false, false, false, false] (by kernel_rfl) rfl rfl (⟨(blk_cell hX.out 0).trans rfl, (blk_cell hX.out 1).trans rfl, (blk_cell hX.out 2).trans rfl, (blk_cell hX.out 3).trans rfl, (blk_cell hX.out 4).trans rfl, (blk_cell hX.out 5).trans rfl, (blk_cell hX.out 6).trans rfl, (blk_cell hY.out.bp 1).trans rfl, (bs_cell hY.out.bl i (by rw [hY.out.lg]; exact hlt)).trans (by rw [hbe.out])⟩) (fun hHeld => ?_)
        replace hX : Aside0 (W5.drew.heap[xb]? = _) := ⟨hX.out⟩
        replace hY := Aside0.mk (hY.out.below (below_drew (Below.refl _ _)))
        clear p0 p1 p2 p3 p4 p5 p6 y1 hcl
        generalize W5.drew = W9 at *
        refine pure_ (i := 0) (N := some 31) (v := ?_) (a' := ?_) #[true, false, false, false, false, false, false, false, false, false, false, false] rfl rfl (by kernel_rfl) (fun _ _ _ h => h) (Or.inl ⟨by rfl, ?_⟩) ?_ ?_
        rotate_left
        · intro w'
          go_simp
          try with_reducible rfl
        rotate_left
        · simp only [Act.put, List.setIfInBounds_toArray, List.set_cons_zero, List.set_cons_succ]
          rfl
        refine take_ (i := 1) (N := some 32) (v := ?_) (a' := ?_) #[true, true, false, false, false, false, false, false, false, false, false, false] rfl rfl (by kernel_rfl) (fun _ _ _ h => h) (Or.inl ⟨by rfl, ?_⟩) hHeld ?_ ?_
        rotate_left
        · intro w' s0
          obtain ⟨s0_, s1_, s2_, s3_, s4_, s5_, s6_, s7_, s8_⟩ := s0
          go_simp
          try with_reducible rfl
        rotate_left
        · simp only [Act.put, List.setIfInBounds_toArray, List.set_cons_zero, List.set_cons_succ]
          rfl
        refine pure_ (i := 2) (N := some 33) (v := ?_) (a' := ?_) #[true, true, true, false, false, false, false, false, false, false, false, false] rfl rfl (by kernel_rfl) (fun _ _ _ h => h) (Or.inl ⟨by rfl, ?_⟩) ?_ ?_
        rotate_left
        · intro w'
          go_simp
          try with_reducible rfl
        rotate_left
        · simp only [Act.put, List.setIfInBounds_toArray, List.set_cons_zero, List.set_cons_succ]
          rfl
        refine pure_ (i := 3) (N := some 34) (v := ?_) (a' := ?_) #[true, true, true, true, false, false, false, false, false, false, false, false] rfl rfl (by kernel_rfl) (fun _ _ _ h => h) (Or.inl ⟨by rfl, ?_⟩) ?_ ?_
        rotate_left
        · intro w'
          go_simp
          try with_reducible rfl
        rotate_left
        · simp only [Act.put, List.setIfInBounds_toArray, List.set_cons_zero, List.set_cons_succ]
          rfl
        refine pure_ (i := 4) (N := some 35) (v := ?_) (a' := ?_) #[true, true, true, true, true, false, false, false, false, false, false, false] rfl rfl (by kernel_rfl) (fun _ _ _ h => h) (Or.inl ⟨by rfl, ?_⟩) ?_ ?_
        rotate_left
        · intro w'
          go_simp
          try with_reducible rfl
        rotate_left
        · simp only [Act.put, List.setIfInBounds_toArray, List.set_cons_zero, List.set_cons_succ]
          rfl
        refine take_ (i := 5) (N := some 36) (v := ?_) (a' := ?_) #[true, true, true, true, true, true, false, false, false, false, false, false] rfl rfl (by kernel_rfl) (fun _ _ _ h => h) (Or.inl ⟨by rfl, ?_⟩) hHeld ?_ ?_
        rotate_left
        · intro w' s0
          obtain ⟨s0_, s1_, s2_, s3_, s4_, s5_, s6_, s7_, s8_⟩ := s0
          go_simp
          try with_reducible rfl
        rotate_left
        · simp only [Act.put, List.setIfInBounds_toArray, List.set_cons_zero, List.set_cons_succ]
          rfl
        refine pure_ (i := 6) (N := some 37) (v := ?_) (a' := ?_) #[true, true, true, true, true, true, true, false, false, false, false, false] rfl rfl (by kernel_rfl) (fun _ _ _ h => h) (Or.inl ⟨by rfl, ?_⟩) ?_ ?_
        rotate_left
        · intro w'
          go_simp
          try with_reducible rfl
        rotate_left
        · simp only [Act.put, List.setIfInBounds_toArray, List.set_cons_zero, List.set_cons_succ]
          rfl
        refine pure_ (i := 7) (N := some 38) (v := ?_) (a' := ?_) #[true, true, true, true, true, true, true, true, false, false, false, false] rfl rfl (by kernel_rfl) (fun _ _ _ h => h) (Or.inl ⟨by rfl, ?_⟩) ?_ ?_
        rotate_left
        · intro w'
          go_simp
          try with_reducible rfl
        rotate_left
        · simp only [Act.put, List.setIfInBounds_toArray, List.set_cons_zero, List.set_cons_succ]
          rfl
        refine take_ (i := 8) (N := some 39) (v := ?_) (a' := ?_) #[true, true, true, true, true, true, true, true, true, false, false, false] rfl rfl (by kernel_rfl) (fun _ _ _ h => h) (Or.inl ⟨by rfl, ?_⟩) hHeld ?_ ?_
        rotate_left
        · intro w' s0
          obtain ⟨s0_, s1_, s2_, s3_, s4_, s5_, s6_, s7_, s8_⟩ := s0
          go_simp
          try with_reducible rfl
        rotate_left
        · simp only [Act.put, List.setIfInBounds_toArray, List.set_cons_zero, List.set_cons_succ]
          rfl
        refine one_ (i := 9) (N := some 40) #[true, true, true, true, true, true, true, true, true, true, false, false] rfl rfl (by kernel_rfl) (by decide) (fun K hK => ?_)
        refine call_ 36 #[.agg #[.int .i64 x.f0, .int .i64 x.f1.f0, .int .i64 x.f1.f1, .int .i64 x.f1.f2, .int .i64 x.f1.f3, .int .i32 x.f1.f4, .int .i64 x.f2], .bool bb] (by rfl) rfl (by go_simp) ?_
        refine (asm_size.calls _ _ _ _ _ _ _ bb _ _ hsz.out).mono ?_
        rintro e w1 ⟨rfl, hb1⟩
        replace hb1 := Aside0.mk hb1
        refine ⟨_, rfl, ?_⟩
        refine hK.out _ _ ⟨(blk_cell (blk_below hX.out hb1.out) 0).trans rfl, (blk_cell (blk_below hX.out hb1.out) 1).trans rfl, (blk_cell (blk_below hX.out hb1.out) 2).trans rfl, (blk_cell (blk_below hX.out hb1.out) 3).trans rfl, (blk_cell (blk_below hX.out hb1.out) 4).trans rfl, (blk_cell (blk_below hX.out hb1.out) 5).trans rfl, (blk_cell (blk_below hX.out hb1.out) 6).trans rfl, (blk_cell (hY.out.below hb1.out).bp 1).trans rfl, (bs_cell (hY.out.below hb1.out).bl i (by rw [hY.out.lg]; exact hlt)).trans (by rw [hbe.out])⟩ (fun hHeld => ?_)
        clear hK K
        refine norm_ (a' := ?_) ?_ ?_
        rotate_left
        · simp only [Act.put, List.setIfInBounds_toArray, List.set_cons_zero, List.set_cons_succ]
          rfl
        refine pure_ (i := 10) (N := some 41) (v := ?_) (a' := ?_) #[true, true, true, true, true, true, true, true, true, true, true, false] rfl rfl (by kernel_rfl) (fun _ _ _ h => h) (Or.inl ⟨by rfl, ?_⟩) ?_ ?_
        rotate_left
        · intro w'
          go_simp
          try with_reducible rfl
        rotate_left
        · simp only [Act.put, List.setIfInBounds_toArray, List.set_cons_zero, List.set_cons_succ]
          rfl
        refine pure_ (i := 11) (N := some 4) (v := ?_) (a' := ?_) #[true, true, true, true, true, true, true, true, true, true, true, true] rfl rfl (by kernel_rfl) (fun _ _ _ h => h) (Or.inl ⟨by rfl, ?_⟩) ?_ ?_
        rotate_left
        · intro w'
          go_simp
          try with_reducible rfl
        rotate_left
        · simp only [Act.put, List.setIfInBounds_toArray, List.set_cons_zero, List.set_cons_succ]
          rfl
        refine done_ (by kernel_rfl) ?_
        go_wp2_with fail
        go_roundw
        case rel => exact ⟨i + 1, _, _, by omega, by rw [hat.out], by go_num, ⟨hY.out.below hb1.out⟩, ha2, hes⟩
        case measure => simp [intOf]; omega
    · obtain rfl : i = l.length := by omega
      have y0 := (blk_cell hY.out.bp 0).trans (show _ = some (.slice (some ⟨ga, 0, none⟩) (l.length + 1) (l.length + 1)) from rfl)
      have ap1 := add_plain ga l.length
      have q2 : (l.length : Int) < (l.length : Int) + 1 := by omega
      have hca : wr.cell? ⟨ga, l.length, none⟩ = some (.int .i64 (a'.getD l.length 0)) := is_cell hY.out.ba l.length (by rw [hY.out.la]; omega)
      have hfa : wr.frozen? ⟨ga, l.length, none⟩ = false := blk_frozen hY.out.ba l.length
      have hY2 := Aside0.mk (hY.out.setA l.length (atV l g l.length))
      have hend : Aside0 (a'.set l.length (atV l g l.length) = ats l g) := ⟨ats_of l g _ (by rw [List.length_set]; exact hY.out.la) fun j hj => by
        by_cases e : j = l.length
        · subst e
          rw [List.getD_eq_getElem?_getD, List.getElem?_set_self (by rw [hY.out.la]; omega)]; rfl
        · rw [List.getD_eq_getElem?_getD, List.getElem?_set_ne (fun h => e h.symm), ← List.getD_eq_getElem?_getD]; exact ha.out j (by omega)⟩
      rw [hend.out, hes.out] at hY2
      clear hY
      go_wp2_with fail
      go_end0
      exact ⟨rfl, hY2.out⟩
end Go.Proofs.Ytdhmnjoceeolcaa.Asm
