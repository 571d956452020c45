/- asm.laid: which branches are long; its walk. -/
import Derived.Test.YtdhmnjoceeolcaaAsC
namespace Go.Proofs.Ytdhmnjoceeolcaa.Asm
open Go.RowKit Go.Proofs.YtdhmnjoceeolcaaW.PrintWords Go.Proofs.YtdhmnjoceeolcaaW.PrintLast Go.Proofs.YtdhmnjoceeolcaaW.PrintMore Go.Proofs.Ytdhmnjoceeolcaa.GF
set_option linter.unusedVariables false
set_option linter.unusedSimpArgs false
/-- Where a label stands, of the first lines. -/
def whO (l : List S37) (g : List Bool) : Nat → Int → Option Int
  | 0, _ => none
  | i + 1, k => if 0 < (l.getD i z37).f0 ∧ (l.getD i z37).f0 = k then some (atV l g i) else whO l g i k
theorem whM_get (l : List S37) (g : List Bool) (es : Mm) (k : Int) : ∀ i, get (whM l g es i) k = (whO l g i k).or (get es k)
  | 0 => rfl
  | i + 1 => by
    have ih := whM_get l g es k i
    unfold whM whO
    by_cases h : 0 < (l.getD i z37).f0
    · rw [if_pos h, get_up]
      by_cases h2 : k = (l.getD i z37).f0
      · rw [if_pos h2, if_pos ⟨h, h2.symm⟩]; rfl
      · rw [if_neg h2, if_neg (fun e => h2 e.2.symm), ih]
    · rw [if_neg h, if_neg (fun e => h e.1), ih]
theorem whO_any (l : List S37) (g g' : List Bool) (k : Int) : ∀ i, (whO l g i k).isSome = (whO l g' i k).isSome
  | 0 => rfl
  | i + 1 => by
    unfold whO
    by_cases h : 0 < (l.getD i z37).f0 ∧ (l.getD i z37).f0 = k
    · rw [if_pos h, if_pos h]; rfl
    · rw [if_neg h, if_neg h]; exact whO_any l g g' k i
def Dom (l : List S37) (es : Mm) : Prop := ∀ g k, whO l g l.length k = none → get es k = none
theorem whM_dom (l : List S37) (g : List Bool) (es : Mm) (h : Dom l es) (k : Int) : get (whM l g es l.length) k = whO l g l.length k := by
  rw [whM_get]
  cases h1 : whO l g l.length k with
  | some x => rfl
  | none => rw [h g k h1]; rfl
theorem dom_of (l : List S37) (g : List Bool) (es : Mm) (h : ∀ k, get es k = whO l g l.length k) : Dom l es := fun g' k hn => by
  rw [h k]
  have := whO_any l g g' k l.length
  rw [hn] at this
  cases h1 : whO l g l.length k with
  | none => rfl
  | some x => rw [h1] at this; cases this
def whV (l : List S37) (g : List Bool) (k : Int) : Int := (whO l g l.length k).getD 0
theorem whO_range (l : List S37) (g : List Bool) (k : Int) : ∀ i, 0 ≤ (whO l g i k).getD 0 ∧ (whO l g i k).getD 0 ≤ 2 * i
  | 0 => ⟨Int.le_refl _, Int.le_refl _⟩
  | i + 1 => by
    have := whO_range l g k i
    have := atV_range l g i
    unfold whO
    split
    · simp only [Option.getD_some]; omega
    · omega
/-- How far a branch goes. -/
def dV (l : List S37) (g : List Bool) (i : Nat) : Int := whV l g (l.getD i z37).f2 - atV l g i - 1
/-- Whether a line grows. -/
def farV (l : List S37) (g : List Bool) (i : Nat) : Bool :=
  !((l.getD i z37).f2 == 0) && !(g.getD i false) && ((l.getD i z37).f1.f0 == 39 || (l.getD i z37).f1.f0 == 40) && (decide (dV l g i < -32768) || decide (32768 ≤ dV l g i))
def gr (l : List S37) (g : List Bool) : Nat → List Bool
  | 0 => g
  | i + 1 => if farV l g i = true then (gr l g i).set i true else gr l g i
def tv (l : List S37) (g : List Bool) : Nat → Bool
  | 0 => false
  | i + 1 => farV l g i || tv l g i
theorem gr_len (l : List S37) (g : List Bool) : ∀ i, (gr l g i).length = g.length
  | 0 => rfl
  | i + 1 => by unfold gr; split; rw [List.length_set, gr_len l g i]; exact gr_len l g i
theorem gr_past (l : List S37) (g : List Bool) (j : Nat) : ∀ i, i ≤ j → (gr l g i).getD j false = g.getD j false
  | 0, _ => rfl
  | i + 1, h => by
    unfold gr
    split
    · rw [List.getD_eq_getElem?_getD, List.getElem?_set_ne (by omega), ← List.getD_eq_getElem?_getD]; exact gr_past l g j i (by omega)
    · exact gr_past l g j i (by omega)
theorem gr_none (l : List S37) (g : List Bool) : ∀ i, tv l g i = false → gr l g i = g
  | 0, _ => rfl
  | i + 1, h => by
    unfold tv at h
    rw [Bool.or_eq_false_iff] at h
    unfold gr
    rw [h.1, if_neg (by decide)]
    exact gr_none l g i h.2
/-- How many are not long. -/
def nl (g : List Bool) : Nat := g.countP fun b => !b
theorem nl_set : ∀ (g : List Bool) (i : Nat), i < g.length → g.getD i false = false → nl (g.set i true) + 1 = nl g
  | [], i, h, _ => by simp at h
  | b :: g, 0, _, h => by
    have : b = false := h
    subst this
    simp [nl]
  | b :: g, i + 1, h, h2 => by
    have := nl_set g i (by simpa using h) (by simpa using h2)
    simp only [nl, List.set_cons_succ, List.countP_cons] at this ⊢
    omega
theorem gr_nl (l : List S37) (g : List Bool) (hg : g.length = l.length) : ∀ i, i ≤ l.length → nl (gr l g i) ≤ nl g ∧ (tv l g i = true → nl (gr l g i) < nl g)
  | 0, _ => ⟨Nat.le_refl _, fun h => by cases h⟩
  | i + 1, h => by
    have ih := gr_nl l g hg i (by omega)
    unfold gr tv
    cases hf : farV l g i
    · rw [if_neg (by decide)]
      simpa using ih
    · rw [if_pos rfl]
      have hgi : g.getD i false = false := by
        unfold farV at hf
        simp only [Bool.and_eq_true, Bool.not_eq_true'] at hf
        exact hf.1.1.2
      have := nl_set (gr l g i) i (by rw [gr_len]; omega) (by rw [gr_past l g i i (Nat.le_refl _)]; exact hgi)
      exact ⟨by omega, fun _ => by omega⟩
def lay (l : List S37) : Nat → List Bool → List Bool
  | 0, g => g
  | k + 1, g => if tv l g l.length = true then lay l k (gr l g l.length) else g
def settle (l : List S37) : List Bool := lay l (l.length + 1) (List.replicate l.length false)
theorem nl_le (g : List Bool) : nl g ≤ g.length := List.countP_le_length
theorem lay_len (l : List S37) : ∀ k g, (lay l k g).length = g.length
  | 0, g => rfl
  | k + 1, g => by unfold lay; split; rw [lay_len l k, gr_len]; rfl
theorem made_rep (z : Value) (n : Nat) : madeCells #[z] n = (List.replicate n z).toArray := by
  apply Array.ext
  · simp [size_madeCells]
  · intro i h1 h2
    simp [madeCells]
    rw [show i % 1 = 0 by omega]
    rfl
theorem is_rep (n : Nat) (x : Int) : is (List.replicate n x) = (List.replicate n (.int .i64 x)).toArray := by simp [is]
theorem bs_rep (n : Nat) (x : Bool) : bs (List.replicate n x) = (List.replicate n (.bool x)).toArray := by simp [bs]
def zA (n : Nat) : List Int := List.replicate (n + 1) 0
def fA (n : Nat) : List Bool := List.replicate n false
theorem mk47 (n : Nat) (h : n ≤ 262144) (W : World) : (Instr.makeSlice 47 (.int .i64 ((n : Int) + 1)) (.int .i64 ((n : Int) + 1))).run Try.prog W = .ok (.slice (some ⟨W.heap.size, 0, none⟩) (n + 1) (n + 1)) (W.alloc (.cells (is (zA n)) 3)) := by
  have := print_make_int (P := Try.prog) 47 3 (.int .i64 0) 8 Try.underlying47 info3 rfl (by decide) ((n : Int) + 1) (by omega) (by omega) W
  rwa [show ((n : Int) + 1).toNat = n + 1 by omega, made_rep, ← is_rep] at this
theorem mk48 (n : Nat) (h : n ≤ 262144) (W : World) : (Instr.makeSlice 48 (.int .i64 (n : Int)) (.int .i64 (n : Int))).run Try.prog W = .ok (.slice (some ⟨W.heap.size, 0, none⟩) n n) (W.alloc (.cells (bs (fA n)) 4)) := by
  have := print_make_int (P := Try.prog) 48 4 (.bool false) 1 Try.underlying48 info4 rfl (by decide) (n : Int) (by omega) (by omega) W
  rwa [Int.toNat_natCast, made_rep, ← bs_rep] at this
theorem four {W : World} (o0 o1 o2 o3 : Obj) : ((((W.alloc o0).alloc o1).alloc o2).alloc o3).heap[W.heap.size]? = some o0 ∧ ((((W.alloc o0).alloc o1).alloc o2).alloc o3).heap[W.heap.size + 1]? = some o1 ∧ ((((W.alloc o0).alloc o1).alloc o2).alloc o3).heap[W.heap.size + 2]? = some o2 ∧ ((((W.alloc o0).alloc o1).alloc o2).alloc o3).heap[W.heap.size + 3]? = some o3 := by
  have h0 := blk_new W o0
  have h1 := blk_new (W.alloc o0) o1
  have h2 := blk_new ((W.alloc o0).alloc o1) o2
  have h3 := blk_new (((W.alloc o0).alloc o1).alloc o2) o3
  rw [show (W.alloc o0).heap.size = W.heap.size + 1 by simp] at h1
  rw [show ((W.alloc o0).alloc o1).heap.size = W.heap.size + 2 by simp] at h2
  rw [show (((W.alloc o0).alloc o1).alloc o2).heap.size = W.heap.size + 3 by simp] at h3
  exact ⟨blk_alloc (blk_alloc (blk_alloc h0 _) _) _, blk_alloc (blk_alloc h1 _) _, blk_alloc h2 _, h3⟩
theorem Ly.begin {w W : World} (h : Below w.heap.size w W) {n p ga gl m : Nat} {o0 o1 o2 o3 : Obj} (hp : w.heap.size ≤ p) (ha : w.heap.size ≤ ga) (hl : w.heap.size ≤ gl) (hm : w.heap.size ≤ m)
    (bp : ((((W.alloc o0).alloc o1).alloc o2).alloc o3).heap[p]? = some (.cells #[.slice (some ⟨ga, 0, none⟩) (n + 1) (n + 1), .slice (some ⟨gl, 0, none⟩) n n, .map (some m)] 50 (0, 0)))
    (ba : ((((W.alloc o0).alloc o1).alloc o2).alloc o3).heap[ga]? = some (.cells (is (zA n)) 3 (0, 0))) (bl : ((((W.alloc o0).alloc o1).alloc o2).alloc o3).heap[gl]? = some (.cells (bs (fA n)) 4 (0, 0)))
    (bm : ((((W.alloc o0).alloc o1).alloc o2).alloc o3).heap[m]? = some (.map #[] 0)) : Ly w ((((W.alloc o0).alloc o1).alloc o2).alloc o3) n p ga gl m (zA n) (fA n) [] :=
  ⟨bp, ba, bl, ⟨_, _, bm, rfl⟩, hp, ha, hl, hm, by simp [zA], by simp [fA], below_alloc (below_alloc (below_alloc (below_alloc h _) _) _) _⟩
/-- What laid leaves. -/
def RetL (w w1 : World) (l : List S37) (e : Ending) (w' : World) : Prop :=
  ∃ p ga gl m es, e = .returned (PP p) ∧ Aside0 (Ly w w' l.length p ga gl m (ats l (settle l)) (settle l) es) ∧ Aside0 (∀ k, get es k = whO l (settle l) l.length k) ∧ Aside0 (Below w1.heap.size w1 w')
set_option maxHeartbeats 32000000 in
set_option maxRecDepth 100000 in
theorem laid_calls {w : World} {A : Option Addr} {l : List S37} {c : Nat} (hL : Aside0 (Kd.C k37 w A l.length l)) (hlen : l.length ≤ 262144) :
    Calls Try.prog 17 #[.slice A l.length c] w (RetL w w l) := by
  have hmk47 := mk47 l.length hlen
  have hmk48 := mk48 l.length hlen
  have hmm := @run_makeMap Try.prog
  have hwr0 : IntKind.i64.wrap ((l.length : Int) + 1) = (l.length : Int) + 1 := IntWalk.i64_in _ (by omega)
  go_enter Try.func17, Try.ntmps17
  go_upto_region 1 with (fail)
  go_cut [3] (fun u3 wx => ∃ p ga gl m : Nat, u3 = PP p ∧ Aside0 (Ly w wx l.length p ga gl m (zA l.length) (fA l.length) []))
  case first =>
    refine start_ (n := 11) (S := fun w' => True) (ds := []) #[false, false, false, false, false, false, false, false, false, false, false] (by kernel_rfl) rfl rfl (trivial) (fun hHeld => ?_)
    have hb0 : Aside0 (Below w.heap.size w w.drew) := ⟨below_drew (Below.refl _ _)⟩
    generalize w.drew = w2 at *
    refine pure_ (i := 0) (N := some 8) (v := ?_) (a' := ?_) #[true, false, false, false, false, false, false, false, false, false, false] rfl rfl (by kernel_rfl) (fun _ _ _ h => h) (Or.inl ⟨by rfl, ?_⟩) ?_ ?_
    rotate_left
    · intro w'
      go_simp
      try with_reducible rfl
    rotate_left
    · simp only [Act.put, List.setIfInBounds_toArray, List.set_cons_zero, List.set_cons_succ]
      rfl
    refine pure_ (i := 1) (N := some 9) (v := ?_) (a' := ?_) #[true, true, false, false, false, false, false, false, false, false, false] rfl rfl (by kernel_rfl) (fun _ _ _ h => h) (Or.inl ⟨by rfl, ?_⟩) ?_ ?_
    rotate_left
    · intro w'
      go_simp
      try with_reducible rfl
    rotate_left
    · simp only [Act.put, List.setIfInBounds_toArray, List.set_cons_zero, List.set_cons_succ]
      rfl
    refine pure_ (i := 2) (N := some 10) (v := ?_) (a' := ?_) #[true, true, true, false, false, false, false, false, false, false, false] rfl rfl (by kernel_rfl) (fun _ _ _ h => h) (Or.inl ⟨by rfl, ?_⟩) ?_ ?_
    rotate_left
    · intro w'
      go_simp
      try with_reducible rfl
    rotate_left
    · simp only [Act.put, List.setIfInBounds_toArray, List.set_cons_zero, List.set_cons_succ]
      rfl
    refine pure_ (i := 4) (N := some 12) (v := ?_) (a' := ?_) #[true, true, true, false, true, false, false, false, false, false, false] rfl rfl (by kernel_rfl) (fun _ _ _ h => h) (Or.inl ⟨by rfl, ?_⟩) ?_ ?_
    rotate_left
    · intro w'
      go_simp
      try with_reducible rfl
    rotate_left
    · simp only [Act.put, List.setIfInBounds_toArray, List.set_cons_zero, List.set_cons_succ]
      rfl
    refine pure_ (i := 5) (N := some 13) (v := ?_) (a' := ?_) #[true, true, true, false, true, true, false, false, false, false, false] rfl rfl (by kernel_rfl) (fun _ _ _ h => h) (Or.inl ⟨by rfl, ?_⟩) ?_ ?_
    rotate_left
    · intro w'
      go_simp
      try with_reducible rfl
    rotate_left
    · simp only [Act.put, List.setIfInBounds_toArray, List.set_cons_zero, List.set_cons_succ]
      rfl
    refine three_ (i := 3) (j := 6) (k := 7) (Ni := some 11) (Nj := some 14) (Nk := some 15) #[true, true, true, true, true, true, false, false, false, false, false] #[true, true, true, false, true, true, true, false, false, false, false] #[true, true, true, false, true, true, false, true, false, false, false] rfl rfl rfl rfl rfl rfl (by kernel_rfl) (by decide) (by decide) (by decide) (fun K hK => ?_) (fun K hK => ?_) (fun K hK => ?_)
    · refine value_ (w1 := (w2).alloc (.cells (is (zA l.length)) 3)) (v := .slice (some ⟨w2.heap.size, 0, none⟩) (l.length + 1) (l.length + 1)) (by rfl) rfl (by go_simp) ?_
      refine hK.out _ _ trivial (fun hHeld => ?_)
      clear hK K
      refine norm_ (a' := ?_) ?_ ?_
      rotate_left
      · simp only [Act.put, List.setIfInBounds_toArray, List.set_cons_zero, List.set_cons_succ]
        rfl
      refine two_ (i := 6) (j := 7) (Ni := some 14) (Nj := some 15) #[true, true, true, true, true, true, true, false, false, false, false] #[true, true, true, true, true, true, false, true, false, false, false] rfl rfl rfl rfl (by kernel_rfl) (by decide) (by decide) (fun K hK => ?_) (fun K hK => ?_)
      · refine value_ (w1 := ((w2).alloc (.cells (is (zA l.length)) 3)).alloc (.cells (bs (fA l.length)) 4)) (v := .slice (some ⟨w2.heap.size + 1, 0, none⟩) l.length l.length) (by rfl) rfl (by go_simp) ?_
        refine hK.out _ _ trivial (fun hHeld => ?_)
        clear hK K
        refine norm_ (a' := ?_) ?_ ?_
        rotate_left
        · simp only [Act.put, List.setIfInBounds_toArray, List.set_cons_zero, List.set_cons_succ]
          rfl
        refine one_ (i := 7) (N := some 15) #[true, true, true, true, true, true, true, true, false, false, false] rfl rfl (by kernel_rfl) (by decide) (fun K hK => ?_)
        refine value_ (w1 := (((w2).alloc (.cells (is (zA l.length)) 3)).alloc (.cells (bs (fA l.length)) 4)).alloc (.map #[] 0)) (v := .map (some (w2.heap.size + 2))) (by rfl) rfl (by go_simp) ?_
        refine hK.out _ _ trivial (fun hHeld => ?_)
        clear hK K
        refine norm_ (a' := ?_) ?_ ?_
        rotate_left
        · simp only [Act.put, List.setIfInBounds_toArray, List.set_cons_zero, List.set_cons_succ]
          rfl
        refine pure_ (i := 8) (N := some 16) (v := ?_) (a' := ?_) #[true, true, true, true, true, true, true, true, true, false, false] rfl rfl (by kernel_rfl) (fun _ _ _ h => h) (Or.inl ⟨by rfl, ?_⟩) ?_ ?_
        rotate_left
        · intro w'
          go_simp
          try with_reducible rfl
        rotate_left
        · simp only [Act.put, List.setIfInBounds_toArray, List.set_cons_zero, List.set_cons_succ]
          rfl
        refine one_ (i := 9) (N := some 17) #[true, true, true, true, true, true, true, true, true, true, false] rfl rfl (by kernel_rfl) (by decide) (fun K hK => ?_)
        refine value_ (w1 := ((((w2).alloc (.cells (is (zA l.length)) 3)).alloc (.cells (bs (fA l.length)) 4)).alloc (.map #[] 0)).alloc (.cells #[.slice (some ⟨w2.heap.size, 0, none⟩) (l.length + 1) (l.length + 1), .slice (some ⟨w2.heap.size + 1, 0, none⟩) l.length l.length, .map (some (w2.heap.size + 2))] 50)) (v := .pointer (some ⟨w2.heap.size + 3, 0, none⟩)) (by rfl) rfl (by go_simp) ?_
        refine hK.out _ _ trivial (fun hHeld => ?_)
        clear hK K
        refine norm_ (a' := ?_) ?_ ?_
        rotate_left
        · simp only [Act.put, List.setIfInBounds_toArray, List.set_cons_zero, List.set_cons_succ]
          rfl
        refine pure_ (i := 10) (N := some 3) (v := ?_) (a' := ?_) #[true, true, true, true, true, true, true, true, true, true, true] rfl rfl (by kernel_rfl) (fun _ _ _ h => h) (Or.inl ⟨by rfl, ?_⟩) ?_ ?_
        rotate_left
        · intro w'
          go_simp
          try with_reducible rfl
        rotate_left
        · simp only [Act.put, List.setIfInBounds_toArray, List.set_cons_zero, List.set_cons_succ]
          rfl
        refine done_ (by kernel_rfl) ?_
        go_wp2_with fail
        go_meet
        have hs := hb0.out.size
        exact ⟨w2.heap.size + 3, w2.heap.size, w2.heap.size + 1, w2.heap.size + 2, rfl, ⟨Ly.begin hb0.out (by omega) (by omega) (by omega) (by omega) (four _ _ _ _).2.2.2 (four _ _ _ _).1 (four _ _ _ _).2.1 (four _ _ _ _).2.2.1⟩⟩
      · refine value_ (w1 := ((w2).alloc (.cells (is (zA l.length)) 3)).alloc (.map #[] 0)) (v := .map (some (w2.heap.size + 1))) (by rfl) rfl (by go_simp) ?_
        refine hK.out _ _ trivial (fun hHeld => ?_)
        clear hK K
        refine norm_ (a' := ?_) ?_ ?_
        rotate_left
        · simp only [Act.put, List.setIfInBounds_toArray, List.set_cons_zero, List.set_cons_succ]
          rfl
        refine one_ (i := 6) (N := some 14) #[true, true, true, true, true, true, true, true, false, false, false] rfl rfl (by kernel_rfl) (by decide) (fun K hK => ?_)
        refine value_ (w1 := (((w2).alloc (.cells (is (zA l.length)) 3)).alloc (.map #[] 0)).alloc (.cells (bs (fA l.length)) 4)) (v := .slice (some ⟨w2.heap.size + 2, 0, none⟩) l.length l.length) (by rfl) rfl (by go_simp) ?_
        refine hK.out _ _ trivial (fun hHeld => ?_)
        clear hK K
        refine norm_ (a' := ?_) ?_ ?_
        rotate_left
        · simp only [Act.put, List.setIfInBounds_toArray, List.set_cons_zero, List.set_cons_succ]
          rfl
        refine pure_ (i := 8) (N := some 16) (v := ?_) (a' := ?_) #[true, true, true, true, true, true, true, true, true, false, false] rfl rfl (by kernel_rfl) (fun _ _ _ h => h) (Or.inl ⟨by rfl, ?_⟩) ?_ ?_
        rotate_left
        · intro w'
          go_simp
          try with_reducible rfl
        rotate_left
        · simp only [Act.put, List.setIfInBounds_toArray, List.set_cons_zero, List.set_cons_succ]
          rfl
        refine one_ (i := 9) (N := some 17) #[true, true, true, true, true, true, true, true, true, true, false] rfl rfl (by kernel_rfl) (by decide) (fun K hK => ?_)
        refine value_ (w1 := ((((w2).alloc (.cells (is (zA l.length)) 3)).alloc (.map #[] 0)).alloc (.cells (bs (fA l.length)) 4)).alloc (.cells #[.slice (some ⟨w2.heap.size, 0, none⟩) (l.length + 1) (l.length + 1), .slice (some ⟨w2.heap.size + 2, 0, none⟩) l.length l.length, .map (some (w2.heap.size + 1))] 50)) (v := .pointer (some ⟨w2.heap.size + 3, 0, none⟩)) (by rfl) rfl (by go_simp) ?_
        refine hK.out _ _ trivial (fun hHeld => ?_)
        clear hK K
        refine norm_ (a' := ?_) ?_ ?_
        rotate_left
        · simp only [Act.put, List.setIfInBounds_toArray, List.set_cons_zero, List.set_cons_succ]
          rfl
        refine pure_ (i := 10) (N := some 3) (v := ?_) (a' := ?_) #[true, true, true, true, true, true, true, true, true, true, true] rfl rfl (by kernel_rfl) (fun _ _ _ h => h) (Or.inl ⟨by rfl, ?_⟩) ?_ ?_
        rotate_left
        · intro w'
          go_simp
          try with_reducible rfl
        rotate_left
        · simp only [Act.put, List.setIfInBounds_toArray, List.set_cons_zero, List.set_cons_succ]
          rfl
        refine done_ (by kernel_rfl) ?_
        go_wp2_with fail
        go_meet
        have hs := hb0.out.size
        exact ⟨w2.heap.size + 3, w2.heap.size, w2.heap.size + 2, w2.heap.size + 1, rfl, ⟨Ly.begin hb0.out (by omega) (by omega) (by omega) (by omega) (four _ _ _ _).2.2.2 (four _ _ _ _).1 (four _ _ _ _).2.2.1 (four _ _ _ _).2.1⟩⟩
    · refine value_ (w1 := (w2).alloc (.cells (bs (fA l.length)) 4)) (v := .slice (some ⟨w2.heap.size, 0, none⟩) l.length l.length) (by rfl) rfl (by go_simp) ?_
      refine hK.out _ _ trivial (fun hHeld => ?_)
      clear hK K
      refine norm_ (a' := ?_) ?_ ?_
      rotate_left
      · simp only [Act.put, List.setIfInBounds_toArray, List.set_cons_zero, List.set_cons_succ]
        rfl
      refine two_ (i := 3) (j := 7) (Ni := some 11) (Nj := some 15) #[true, true, true, true, true, true, true, false, false, false, false] #[true, true, true, false, true, true, true, true, false, false, false] rfl rfl rfl rfl (by kernel_rfl) (by decide) (by decide) (fun K hK => ?_) (fun K hK => ?_)
      · refine value_ (w1 := ((w2).alloc (.cells (bs (fA l.length)) 4)).alloc (.cells (is (zA l.length)) 3)) (v := .slice (some ⟨w2.heap.size + 1, 0, none⟩) (l.length + 1) (l.length + 1)) (by rfl) rfl (by go_simp) ?_
        refine hK.out _ _ trivial (fun hHeld => ?_)
        clear hK K
        refine norm_ (a' := ?_) ?_ ?_
        rotate_left
        · simp only [Act.put, List.setIfInBounds_toArray, List.set_cons_zero, List.set_cons_succ]
          rfl
        refine one_ (i := 7) (N := some 15) #[true, true, true, true, true, true, true, true, false, false, false] rfl rfl (by kernel_rfl) (by decide) (fun K hK => ?_)
        refine value_ (w1 := (((w2).alloc (.cells (bs (fA l.length)) 4)).alloc (.cells (is (zA l.length)) 3)).alloc (.map #[] 0)) (v := .map (some (w2.heap.size + 2))) (by rfl) rfl (by go_simp) ?_
        refine hK.out _ _ trivial (fun hHeld => ?_)
        clear hK K
        refine norm_ (a' := ?_) ?_ ?_
        rotate_left
        · simp only [Act.put, List.setIfInBounds_toArray, List.set_cons_zero, List.set_cons_succ]
          rfl
        refine pure_ (i := 8) (N := some 16) (v := ?_) (a' := ?_) #[true, true, true, true, true, true, true, true, true, false, false] rfl rfl (by kernel_rfl) (fun _ _ _ h => h) (Or.inl ⟨by rfl, ?_⟩) ?_ ?_
        rotate_left
        · intro w'
          go_simp
          try with_reducible rfl
        rotate_left
        · simp only [Act.put, List.setIfInBounds_toArray, List.set_cons_zero, List.set_cons_succ]
          rfl
        refine one_ (i := 9) (N := some 17) #[true, true, true, true, true, true, true, true, true, true, false] rfl rfl (by kernel_rfl) (by decide) (fun K hK => ?_)
        refine value_ (w1 := ((((w2).alloc (.cells (bs (fA l.length)) 4)).alloc (.cells (is (zA l.length)) 3)).alloc (.map #[] 0)).alloc (.cells #[.slice (some ⟨w2.heap.size + 1, 0, none⟩) (l.length + 1) (l.length + 1), .slice (some ⟨w2.heap.size, 0, none⟩) l.length l.length, .map (some (w2.heap.size + 2))] 50)) (v := .pointer (some ⟨w2.heap.size + 3, 0, none⟩)) (by rfl) rfl (by go_simp) ?_
        refine hK.out _ _ trivial (fun hHeld => ?_)
        clear hK K
        refine norm_ (a' := ?_) ?_ ?_
        rotate_left
        · simp only [Act.put, List.setIfInBounds_toArray, List.set_cons_zero, List.set_cons_succ]
          rfl
        refine pure_ (i := 10) (N := some 3) (v := ?_) (a' := ?_) #[true, true, true, true, true, true, true, true, true, true, true] rfl rfl (by kernel_rfl) (fun _ _ _ h => h) (Or.inl ⟨by rfl, ?_⟩) ?_ ?_
        rotate_left
        · intro w'
          go_simp
          try with_reducible rfl
        rotate_left
        · simp only [Act.put, List.setIfInBounds_toArray, List.set_cons_zero, List.set_cons_succ]
          rfl
        refine done_ (by kernel_rfl) ?_
        go_wp2_with fail
        go_meet
        have hs := hb0.out.size
        exact ⟨w2.heap.size + 3, w2.heap.size + 1, w2.heap.size, w2.heap.size + 2, rfl, ⟨Ly.begin hb0.out (by omega) (by omega) (by omega) (by omega) (four _ _ _ _).2.2.2 (four _ _ _ _).2.1 (four _ _ _ _).1 (four _ _ _ _).2.2.1⟩⟩
      · refine value_ (w1 := ((w2).alloc (.cells (bs (fA l.length)) 4)).alloc (.map #[] 0)) (v := .map (some (w2.heap.size + 1))) (by rfl) rfl (by go_simp) ?_
        refine hK.out _ _ trivial (fun hHeld => ?_)
        clear hK K
        refine norm_ (a' := ?_) ?_ ?_
        rotate_left
        · simp only [Act.put, List.setIfInBounds_toArray, List.set_cons_zero, List.set_cons_succ]
          rfl
        refine one_ (i := 3) (N := some 11) #[true, true, true, true, true, true, true, true, false, false, false] rfl rfl (by kernel_rfl) (by decide) (fun K hK => ?_)
        refine value_ (w1 := (((w2).alloc (.cells (bs (fA l.length)) 4)).alloc (.map #[] 0)).alloc (.cells (is (zA l.length)) 3)) (v := .slice (some ⟨w2.heap.size + 2, 0, none⟩) (l.length + 1) (l.length + 1)) (by rfl) rfl (by go_simp) ?_
        refine hK.out _ _ trivial (fun hHeld => ?_)
        clear hK K
        refine norm_ (a' := ?_) ?_ ?_
        rotate_left
        · simp only [Act.put, List.setIfInBounds_toArray, List.set_cons_zero, List.set_cons_succ]
          rfl
        refine pure_ (i := 8) (N := some 16) (v := ?_) (a' := ?_) #[true, true, true, true, true, true, true, true, true, false, false] rfl rfl (by kernel_rfl) (fun _ _ _ h => h) (Or.inl ⟨by rfl, ?_⟩) ?_ ?_
        rotate_left
        · intro w'
          go_simp
          try with_reducible rfl
        rotate_left
        · simp only [Act.put, List.setIfInBounds_toArray, List.set_cons_zero, List.set_cons_succ]
          rfl
        refine one_ (i := 9) (N := some 17) #[true, true, true, true, true, true, true, true, true, true, false] rfl rfl (by kernel_rfl) (by decide) (fun K hK => ?_)
        refine value_ (w1 := ((((w2).alloc (.cells (bs (fA l.length)) 4)).alloc (.map #[] 0)).alloc (.cells (is (zA l.length)) 3)).alloc (.cells #[.slice (some ⟨w2.heap.size + 2, 0, none⟩) (l.length + 1) (l.length + 1), .slice (some ⟨w2.heap.size, 0, none⟩) l.length l.length, .map (some (w2.heap.size + 1))] 50)) (v := .pointer (some ⟨w2.heap.size + 3, 0, none⟩)) (by rfl) rfl (by go_simp) ?_
        refine hK.out _ _ trivial (fun hHeld => ?_)
        clear hK K
        refine norm_ (a' := ?_) ?_ ?_
        rotate_left
        · simp only [Act.put, List.setIfInBounds_toArray, List.set_cons_zero, List.set_cons_succ]
          rfl
        refine pure_ (i := 10) (N := some 3) (v := ?_) (a' := ?_) #[true, true, true, true, true, true, true, true, true, true, true] rfl rfl (by kernel_rfl) (fun _ _ _ h => h) (Or.inl ⟨by rfl, ?_⟩) ?_ ?_
        rotate_left
        · intro w'
          go_simp
          try with_reducible rfl
        rotate_left
        · simp only [Act.put, List.setIfInBounds_toArray, List.set_cons_zero, List.set_cons_succ]
          rfl
        refine done_ (by kernel_rfl) ?_
        go_wp2_with fail
        go_meet
        have hs := hb0.out.size
        exact ⟨w2.heap.size + 3, w2.heap.size + 2, w2.heap.size, w2.heap.size + 1, rfl, ⟨Ly.begin hb0.out (by omega) (by omega) (by omega) (by omega) (four _ _ _ _).2.2.2 (four _ _ _ _).2.2.1 (four _ _ _ _).1 (four _ _ _ _).2.1⟩⟩
    · refine value_ (w1 := (w2).alloc (.map #[] 0)) (v := .map (some (w2.heap.size))) (by rfl) rfl (by go_simp) ?_
      refine hK.out _ _ trivial (fun hHeld => ?_)
      clear hK K
      refine norm_ (a' := ?_) ?_ ?_
      rotate_left
      · simp only [Act.put, List.setIfInBounds_toArray, List.set_cons_zero, List.set_cons_succ]
        rfl
      refine two_ (i := 3) (j := 6) (Ni := some 11) (Nj := some 14) #[true, true, true, true, true, true, false, true, false, false, false] #[true, true, true, false, true, true, true, true, false, false, false] rfl rfl rfl rfl (by kernel_rfl) (by decide) (by decide) (fun K hK => ?_) (fun K hK => ?_)
      · refine value_ (w1 := ((w2).alloc (.map #[] 0)).alloc (.cells (is (zA l.length)) 3)) (v := .slice (some ⟨w2.heap.size + 1, 0, none⟩) (l.length + 1) (l.length + 1)) (by rfl) rfl (by go_simp) ?_
        refine hK.out _ _ trivial (fun hHeld => ?_)
        clear hK K
        refine norm_ (a' := ?_) ?_ ?_
        rotate_left
        · simp only [Act.put, List.setIfInBounds_toArray, List.set_cons_zero, List.set_cons_succ]
          rfl
        refine one_ (i := 6) (N := some 14) #[true, true, true, true, true, true, true, true, false, false, false] rfl rfl (by kernel_rfl) (by decide) (fun K hK => ?_)
        refine value_ (w1 := (((w2).alloc (.map #[] 0)).alloc (.cells (is (zA l.length)) 3)).alloc (.cells (bs (fA l.length)) 4)) (v := .slice (some ⟨w2.heap.size + 2, 0, none⟩) l.length l.length) (by rfl) rfl (by go_simp) ?_
        refine hK.out _ _ trivial (fun hHeld => ?_)
        clear hK K
        refine norm_ (a' := ?_) ?_ ?_
        rotate_left
        · simp only [Act.put, List.setIfInBounds_toArray, List.set_cons_zero, List.set_cons_succ]
          rfl
        refine pure_ (i := 8) (N := some 16) (v := ?_) (a' := ?_) #[true, true, true, true, true, true, true, true, true, false, false] rfl rfl (by kernel_rfl) (fun _ _ _ h => h) (Or.inl ⟨by rfl, ?_⟩) ?_ ?_
        rotate_left
        · intro w'
          go_simp
          try with_reducible rfl
        rotate_left
        · simp only [Act.put, List.setIfInBounds_toArray, List.set_cons_zero, List.set_cons_succ]
          rfl
        refine one_ (i := 9) (N := some 17) #[true, true, true, true, true, true, true, true, true, true, false] rfl rfl (by kernel_rfl) (by decide) (fun K hK => ?_)
        refine value_ (w1 := ((((w2).alloc (.map #[] 0)).alloc (.cells (is (zA l.length)) 3)).alloc (.cells (bs (fA l.length)) 4)).alloc (.cells #[.slice (some ⟨w2.heap.size + 1, 0, none⟩) (l.length + 1) (l.length + 1), .slice (some ⟨w2.heap.size + 2, 0, none⟩) l.length l.length, .map (some (w2.heap.size))] 50)) (v := .pointer (some ⟨w2.heap.size + 3, 0, none⟩)) (by rfl) rfl (by go_simp) ?_
        refine hK.out _ _ trivial (fun hHeld => ?_)
        clear hK K
        refine norm_ (a' := ?_) ?_ ?_
        rotate_left
        · simp only [Act.put, List.setIfInBounds_toArray, List.set_cons_zero, List.set_cons_succ]
          rfl
        refine pure_ (i := 10) (N := some 3) (v := ?_) (a' := ?_) #[true, true, true, true, true, true, true, true, true, true, true] rfl rfl (by kernel_rfl) (fun _ _ _ h => h) (Or.inl ⟨by rfl, ?_⟩) ?_ ?_
        rotate_left
        · intro w'
          go_simp
          try with_reducible rfl
        rotate_left
        · simp only [Act.put, List.setIfInBounds_toArray, List.set_cons_zero, List.set_cons_succ]
          rfl
        refine done_ (by kernel_rfl) ?_
        go_wp2_with fail
        go_meet
        have hs := hb0.out.size
        exact ⟨w2.heap.size + 3, w2.heap.size + 1, w2.heap.size + 2, w2.heap.size, rfl, ⟨Ly.begin hb0.out (by omega) (by omega) (by omega) (by omega) (four _ _ _ _).2.2.2 (four _ _ _ _).2.1 (four _ _ _ _).2.2.1 (four _ _ _ _).1⟩⟩
      · refine value_ (w1 := ((w2).alloc (.map #[] 0)).alloc (.cells (bs (fA l.length)) 4)) (v := .slice (some ⟨w2.heap.size + 1, 0, none⟩) l.length l.length) (by rfl) rfl (by go_simp) ?_
        refine hK.out _ _ trivial (fun hHeld => ?_)
        clear hK K
        refine norm_ (a' := ?_) ?_ ?_
        rotate_left
        · simp only [Act.put, List.setIfInBounds_toArray, List.set_cons_zero, List.set_cons_succ]
          rfl
        refine one_ (i := 3) (N := some 11) #[true, true, true, true, true, true, true, true, false, false, false] rfl rfl (by kernel_rfl) (by decide) (fun K hK => ?_)
        refine value_ (w1 := (((w2).alloc (.map #[] 0)).alloc (.cells (bs (fA l.length)) 4)).alloc (.cells (is (zA l.length)) 3)) (v := .slice (some ⟨w2.heap.size + 2, 0, none⟩) (l.length + 1) (l.length + 1)) (by rfl) rfl (by go_simp) ?_
        refine hK.out _ _ trivial (fun hHeld => ?_)
        clear hK K
        refine norm_ (a' := ?_) ?_ ?_
        rotate_left
        · simp only [Act.put, List.setIfInBounds_toArray, List.set_cons_zero, List.set_cons_succ]
          rfl
        refine pure_ (i := 8) (N := some 16) (v := ?_) (a' := ?_) #[true, true, true, true, true, true, true, true, true, false, false] rfl rfl (by kernel_rfl) (fun _ _ _ h => h) (Or.inl ⟨by rfl, ?_⟩) ?_ ?_
        rotate_left
        · intro w'
          go_simp
          try with_reducible rfl
        rotate_left
        · simp only [Act.put, List.setIfInBounds_toArray, List.set_cons_zero, List.set_cons_succ]
          rfl
        refine one_ (i := 9) (N := some 17) #[true, true, true, true, true, true, true, true, true, true, false] rfl rfl (by kernel_rfl) (by decide) (fun K hK => ?_)
        refine value_ (w1 := ((((w2).alloc (.map #[] 0)).alloc (.cells (bs (fA l.length)) 4)).alloc (.cells (is (zA l.length)) 3)).alloc (.cells #[.slice (some ⟨w2.heap.size + 2, 0, none⟩) (l.length + 1) (l.length + 1), .slice (some ⟨w2.heap.size + 1, 0, none⟩) l.length l.length, .map (some (w2.heap.size))] 50)) (v := .pointer (some ⟨w2.heap.size + 3, 0, none⟩)) (by rfl) rfl (by go_simp) ?_
        refine hK.out _ _ trivial (fun hHeld => ?_)
        clear hK K
        refine norm_ (a' := ?_) ?_ ?_
        rotate_left
        · simp only [Act.put, List.setIfInBounds_toArray, List.set_cons_zero, List.set_cons_succ]
          rfl
        refine pure_ (i := 10) (N := some 3) (v := ?_) (a' := ?_) #[true, true, true, true, true, true, true, true, true, true, true] rfl rfl (by kernel_rfl) (fun _ _ _ h => h) (Or.inl ⟨by rfl, ?_⟩) ?_ ?_
        rotate_left
        · intro w'
          go_simp
          try with_reducible rfl
        rotate_left
        · simp only [Act.put, List.setIfInBounds_toArray, List.set_cons_zero, List.set_cons_succ]
          rfl
        refine done_ (by kernel_rfl) ?_
        go_wp2_with fail
        go_meet
        have hs := hb0.out.size
        exact ⟨w2.heap.size + 3, w2.heap.size + 2, w2.heap.size + 1, w2.heap.size, rfl, ⟨Ly.begin hb0.out (by omega) (by omega) (by omega) (by omega) (four _ _ _ _).2.2.2 (four _ _ _ _).2.2.1 (four _ _ _ _).2.1 (four _ _ _ _).1⟩⟩
  case rest =>
  obtain ⟨p, ga, gl, m, rfl, hY0⟩ := hcut
  clear hmk47 hmk48 hmm hwr0
  have hs0 : Aside0 (settle l = lay l (l.length + 1) (fA l.length)) := ⟨rfl⟩
  have hn0 : Aside0 (nl (fA l.length) < l.length + 1) := ⟨by have := nl_le (fA l.length); simp only [fA, List.length_replicate] at this ⊢; omega⟩
  have hd0 : Aside0 (Dom l []) := ⟨fun _ _ _ => rfl⟩
  generalize zA l.length = a0 at *
  generalize fA l.length = g0 at *
  go_wp2_with fail
  go_loopg [2] (l.length + 1) (fun kq u2 wr => ∃ (kg : Nat) (g : List Bool) (a : List Int) (es : Mm), kg = kq ∧ u2 = .pointer none ∧ Aside0 (Ly w wr l.length p ga gl m a g es) ∧ Aside0 (settle l = lay l kq g) ∧ Aside0 (nl g < kq) ∧ Aside0 (Dom l es))
  case atStart => exact ⟨_, g0, a0, [], rfl, rfl, hY0, hs0, hn0, hd0⟩
  case round =>
    clear hY0 hs0 hn0 hd0
    obtain ⟨kg, g, a, es, rfl, rfl, hY, hst, hnl, hdom⟩ := hrel
    have hes := Aside0.mk (whM_dom l g es hdom.out)
    have hgl : Aside0 (g.length = l.length) := ⟨hY.out.lg⟩
    go_upto_region 3 with (go_at_call 28; (with_reducible refine (place_calls hL hlen hY).mono ?_); rintro e w1 ⟨rfl, hY1⟩; replace hY1 := Aside0.mk hY1)
    generalize whM l g es l.length = es1 at *
    clear hY hdom
    go_wp2_with fail
    go_loopw [4, 23] (fun u4 u23 wr => ∃ i : Nat, i ≤ l.length ∧ u23 = .int .i64 i ∧ u4 = .bool (tv l g i) ∧ Aside0 (Ly w wr l.length p ga gl m (ats l g) (gr l g i) es1)) (fun _ u _ => l.length - (intOf u).toNat)
    case atStart => exact ⟨0, Nat.zero_le _, rfl, rfl, hY1⟩
    case round =>
      clear hY1
      obtain ⟨i, hi, rfl, rfl, hY⟩ := hrel
      by_cases hlt : i < l.length
      · obtain ⟨ad, ea, c0, c1, c2, c3, c4, c5, c6⟩ := at_T37 (Kd.C_below hL.out hY.out.bel) (i : Int) (by omega) (by omega)
        subst ea
        simp only [Int.toNat_natCast, rd_L] at c0 c1 c2 c3 c4 c5 c6
        have hr := Aside0.mk (atV_range l g i)
        have hw := Aside0.mk (whO_range l g (l.getD i z37).f2 l.length)
        have htv : Aside0 (tv l g (i + 1) = (farV l g i || tv l g i)) := ⟨rfl⟩
        have hgr : Aside0 (gr l g (i + 1) = if farV l g i = true then (gr l g i).set i true else gr l g i) := ⟨rfl⟩
        have hdd : Aside0 (dV l g i = whV l g (l.getD i z37).f2 - atV l g i - 1) := ⟨rfl⟩
        have hgd : Aside0 ((gr l g i).getD i false = g.getD i false) := ⟨gr_past l g i i (Nat.le_refl _)⟩
        have hfv : Aside0 (farV l g i = (!((l.getD i z37).f2 == 0) && !(g.getD i false) && ((l.getD i z37).f1.f0 == 39 || (l.getD i z37).f1.f0 == 40) && (decide (dV l g i < -32768) || decide (32768 ≤ dV l g i)))) := ⟨rfl⟩
        have hlk : Aside0 ((get es1 (l.getD i z37).f2).getD 0 = whV l g (l.getD i z37).f2) := ⟨by rw [hes.out]; rfl⟩
        have hX := Aside0.mk (blk_new wr (lb (l.getD i z37)))
        replace hY := Aside0.mk (hY.out.below (below_alloc (Below.refl wr.heap.size wr) (lb (l.getD i z37))))
        have q0 : (0 : Int) ≤ (i : Int) := by omega
        have q1 : (i : Int) < (l.length : Int) := by omega
        have q2 : (i : Int) < (l.length : Int) + 1 := by omega
        have ap1 := add_plain ga i
        have ap2 := add_plain gl i
        have hwl : Aside0 (0 ≤ whV l g (l.getD i z37).f2 ∧ whV l g (l.getD i z37).f2 ≤ 2 * l.length) := ⟨hw.out⟩
        clear hw
        generalize l.getD i z37 = x at *
        go_upto_region 7 with (fail)
        generalize wr.alloc (lb x) = W at *
        have p1 := (blk_cell hX.out 1).trans (show _ = some (.int .i64 x.f1.f0) from rfl)
        have p6 := (blk_cell hX.out 6).trans (show _ = some (.int .i64 x.f2) from rfl)
        have y0 := (blk_cell hY.out.bp 0).trans (show _ = some (.slice (some ⟨ga, 0, none⟩) (l.length + 1) (l.length + 1)) from rfl)
        have y1 := (blk_cell hY.out.bp 1).trans (show _ = some (.slice (some ⟨gl, 0, none⟩) l.length l.length) from rfl)
        have y2 := (blk_cell hY.out.bp 2).trans (show _ = some (.map (some m)) from rfl)
        have hcl := bs_cell hY.out.bl i (by rw [hY.out.lg]; exact hlt)
        rw [hgd.out] at hcl
        have hfl : W.frozen? ⟨gl, i, none⟩ = false := blk_frozen hY.out.bl i
        have hca := is_cell hY.out.ba i (by rw [hY.out.la]; omega)
        rw [ats_at l g i (by omega)] at hca
        generalize g.getD i false = bi at *
        by_cases k1 : x.f2 = 0
        · have f0 : farV l g i = false := by rw [hfv.out, k1]; rfl
          rw [f0] at htv hgr
          replace f0 := Aside0.mk f0
          go_wp2_with fail
          go_roundw
          case rel => exact ⟨i + 1, by omega, by go_num, by rw [htv.out]; rfl, ⟨by rw [hgr.out]; exact hY.out⟩⟩
          case measure => simp [intOf]; omega
        · have k1' : (x.f2 == 0) = false := beq_eq_false_iff_ne.2 k1
          cases bi
          · by_cases k3 : x.f1.f0 = 39 ∨ x.f1.f0 = 40
            · have k39 : Aside0 ((x.f1.f0 == 39 || x.f1.f0 == 40) = true) := ⟨by simpa using k3⟩
              have hw1 : IntKind.i64.wrap (whV l g x.f2 - atV l g i) = whV l g x.f2 - atV l g i := IntWalk.i64_in _ (by have := hwl.out; have := hr.out; omega)
              have hw2 : IntKind.i64.wrap (whV l g x.f2 - atV l g i - 1) = whV l g x.f2 - atV l g i - 1 := IntWalk.i64_in _ (by have := hwl.out; have := hr.out; omega)
              rw [k39.out, k1'] at hfv
              have hlkm : ∀ k, (Instr.lookup 42 (.map (some m)) (.int .i64 x.f2) false).run Try.prog (W.drewN k) = .ok (.int .i64 (whV l g x.f2)) (W.drewN k) := fun k => by
                have := look (hY.out.mp.keep (w' := W.drewN k) rfl) x.f2
                rwa [hlk.out] at this
              clear hgd
              rcases k3 with k3 | k3
              · have e1 : (x.f1.f0 != 39) = false := by rw [k3]; rfl
                replace k3 := Aside0.mk k3
                go_upto_region 8 with (fail)
                go_quiet (fail)
                rw [← hdd.out]
                clear hw1 hw2 hlkm hca p1 p6 y0 y2
                replace y1 : (W.drewN nq).cell? ⟨p, 1, none⟩ = some (.slice (some ⟨gl, 0, none⟩) l.length l.length) := y1
                replace hcl : (W.drewN nq).cell? ⟨gl, i, none⟩ = some (.bool false) := hcl
                replace hfl : (W.drewN nq).frozen? ⟨gl, i, none⟩ = false := hfl
                replace hY := Aside0.mk (hY.out.below (pw_below_drewN (Below.refl W.heap.size W) nq))
                generalize W.drewN nq = W8 at *
                clear hdd
                generalize dV l g i = d at *
                have hY2 := Aside0.mk (hY.out.setL i true)
                by_cases d1 : d < -32768
                · have f1 : farV l g i = true := by rw [hfv.out]; simp only [Bool.not_false, Bool.true_and, Bool.or_eq_true, decide_eq_true_eq]; omega
                  rw [f1] at htv hgr
                  rw [if_pos rfl] at hgr
                  replace f1 := Aside0.mk f1
                  go_wp2_with fail
                  go_roundw
                  case rel => exact ⟨i + 1, by omega, by go_num, by rw [htv.out]; rfl, ⟨by rw [hgr.out]; exact hY2.out⟩⟩
                  case measure => simp [intOf]; omega
                · have d1' : decide (d < -32768) = false := decide_eq_false d1
                  by_cases d2 : 32768 ≤ d
                  · have f1 : farV l g i = true := by rw [hfv.out]; simp only [Bool.not_false, Bool.true_and, Bool.or_eq_true, decide_eq_true_eq]; omega
                    rw [f1] at htv hgr
                    rw [if_pos rfl] at hgr
                    replace f1 := Aside0.mk f1
                    replace d1 := Aside0.mk d1
                    go_wp2_with fail
                    go_roundw
                    case rel => exact ⟨i + 1, by omega, by go_num, by rw [htv.out]; rfl, ⟨by rw [hgr.out]; exact hY2.out⟩⟩
                    case measure => simp [intOf]; omega
                  · have f1 : farV l g i = false := by rw [hfv.out]; simp only [Bool.not_false, Bool.true_and, Bool.or_eq_false_iff, decide_eq_false_iff_not]; omega
                    have d2' : decide (32768 ≤ d) = false := decide_eq_false d2
                    rw [f1] at htv hgr
                    replace f1 := Aside0.mk f1
                    replace d1 := Aside0.mk d1
                    replace d2 := Aside0.mk d2
                    clear hY2
                    go_wp2_with fail
                    go_roundw
                    case rel => exact ⟨i + 1, by omega, by go_num, by rw [htv.out]; rfl, ⟨by rw [hgr.out]; exact hY.out⟩⟩
                    case measure => simp [intOf]; omega
              · have e1 : (x.f1.f0 != 39) = true := by rw [k3]; rfl
                have e2 : (x.f1.f0 != 40) = false := by rw [k3]; rfl
                replace k3 := Aside0.mk k3
                go_upto_region 8 with (fail)
                go_quiet (fail)
                rw [← hdd.out]
                clear hw1 hw2 hlkm hca p1 p6 y0 y2
                replace y1 : (W.drewN nq).cell? ⟨p, 1, none⟩ = some (.slice (some ⟨gl, 0, none⟩) l.length l.length) := y1
                replace hcl : (W.drewN nq).cell? ⟨gl, i, none⟩ = some (.bool false) := hcl
                replace hfl : (W.drewN nq).frozen? ⟨gl, i, none⟩ = false := hfl
                replace hY := Aside0.mk (hY.out.below (pw_below_drewN (Below.refl W.heap.size W) nq))
                generalize W.drewN nq = W8 at *
                clear hdd
                generalize dV l g i = d at *
                have hY2 := Aside0.mk (hY.out.setL i true)
                by_cases d1 : d < -32768
                · have f1 : farV l g i = true := by rw [hfv.out]; simp only [Bool.not_false, Bool.true_and, Bool.or_eq_true, decide_eq_true_eq]; omega
                  rw [f1] at htv hgr
                  rw [if_pos rfl] at hgr
                  replace f1 := Aside0.mk f1
                  go_wp2_with fail
                  go_roundw
                  case rel => exact ⟨i + 1, by omega, by go_num, by rw [htv.out]; rfl, ⟨by rw [hgr.out]; exact hY2.out⟩⟩
                  case measure => simp [intOf]; omega
                · have d1' : decide (d < -32768) = false := decide_eq_false d1
                  by_cases d2 : 32768 ≤ d
                  · have f1 : farV l g i = true := by rw [hfv.out]; simp only [Bool.not_false, Bool.true_and, Bool.or_eq_true, decide_eq_true_eq]; omega
                    rw [f1] at htv hgr
                    rw [if_pos rfl] at hgr
                    replace f1 := Aside0.mk f1
                    replace d1 := Aside0.mk d1
                    go_wp2_with fail
                    go_roundw
                    case rel => exact ⟨i + 1, by omega, by go_num, by rw [htv.out]; rfl, ⟨by rw [hgr.out]; exact hY2.out⟩⟩
                    case measure => simp [intOf]; omega
                  · have f1 : farV l g i = false := by rw [hfv.out]; simp only [Bool.not_false, Bool.true_and, Bool.or_eq_false_iff, decide_eq_false_iff_not]; omega
                    have d2' : decide (32768 ≤ d) = false := decide_eq_false d2
                    rw [f1] at htv hgr
                    replace f1 := Aside0.mk f1
                    replace d1 := Aside0.mk d1
                    replace d2 := Aside0.mk d2
                    clear hY2
                    go_wp2_with fail
                    go_roundw
                    case rel => exact ⟨i + 1, by omega, by go_num, by rw [htv.out]; rfl, ⟨by rw [hgr.out]; exact hY.out⟩⟩
                    case measure => simp [intOf]; omega
            · have k39 : Aside0 ((x.f1.f0 == 39 || x.f1.f0 == 40) = false) := ⟨by rw [Bool.or_eq_false_iff]; exact ⟨beq_eq_false_iff_ne.2 fun h => k3 (.inl h), beq_eq_false_iff_ne.2 fun h => k3 (.inr h)⟩⟩
              have e1 : (x.f1.f0 != 39) = true := by simpa using fun h => k3 (.inl h)
              have e2 : (x.f1.f0 != 40) = true := by simpa using fun h => k3 (.inr h)
              have f0 : farV l g i = false := by rw [hfv.out, k39.out]; simp
              rw [f0] at htv hgr
              replace f0 := Aside0.mk f0
              replace k3 := Aside0.mk k3
              go_wp2_with fail
              go_roundw
              case rel => exact ⟨i + 1, by omega, by go_num, by rw [htv.out]; rfl, ⟨by rw [hgr.out]; exact hY.out⟩⟩
              case measure => simp [intOf]; omega
          · have f0 : farV l g i = false := by rw [hfv.out]; simp
            rw [f0] at htv hgr
            replace f0 := Aside0.mk f0
            go_wp2_with fail
            go_roundw
            case rel => exact ⟨i + 1, by omega, by go_num, by rw [htv.out]; rfl, ⟨by rw [hgr.out]; exact hY.out⟩⟩
            case measure => simp [intOf]; omega
      · obtain rfl : i = l.length := by omega
        have hk1 : Aside0 (1 ≤ kg) := ⟨by have := hnl.out; omega⟩
        have hgn := Aside0.mk (gr_nl l g hgl.out l.length (Nat.le_refl _))
        have hst2 : Aside0 (lay l kg g = if tv l g l.length = true then lay l (kg - 1) (gr l g l.length) else g) := ⟨by obtain ⟨k, rfl⟩ : ∃ k, kg = k + 1 := ⟨kg - 1, by have := hk1.out; omega⟩; rfl⟩
        cases htv : tv l g l.length
        · have hgg := Aside0.mk (gr_none l g l.length htv)
          have hse : Aside0 (settle l = g) := ⟨by rw [hst.out, hst2.out, htv]; rfl⟩
          rw [hgg.out] at hY
          replace htv := Aside0.mk htv
          go_wp2_with fail
          go_ret
          refine ⟨p, ga, gl, m, es1, rfl, ?_, ?_, ⟨hY.out.bel⟩⟩
          · rw [hse.out]; exact hY
          · rw [hse.out]; exact hes
        · have hsn : Aside0 (settle l = lay l (kg - 1) (gr l g l.length)) := ⟨by rw [hst.out, hst2.out, htv]; rfl⟩
          have hnn : Aside0 (nl (gr l g l.length) < kg - 1) := ⟨by have := hgn.out.2 htv; have := hnl.out; omega⟩
          have hdn := Aside0.mk (dom_of l g es1 hes.out)
          replace htv := Aside0.mk htv
          go_wp2_with fail
          go_roundg (kg - 1)
          case measure => have := hk1.out; omega
          case rel => exact ⟨_, _, _, _, rfl, rfl, hY, hsn, hnn, hdn⟩
end Go.Proofs.Ytdhmnjoceeolcaa.Asm
