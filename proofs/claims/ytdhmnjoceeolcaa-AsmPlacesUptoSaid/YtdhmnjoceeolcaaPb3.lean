/- Texts laid together for a claim. -/
import Derived.Test.YtdhmnjoceeolcaaPb2
section
namespace Go.Proofs.Ytdhmnjoceeolcaa.Asm
open Go.RowKit Go.Proofs.YtdhmnjoceeolcaaW.PrintWords Go.Proofs.YtdhmnjoceeolcaaW.PrintLast Go.Proofs.YtdhmnjoceeolcaaW.PrintMore Go.Proofs.Ytdhmnjoceeolcaa.GF
set_option linter.unusedVariables false
set_option linter.unusedSimpArgs false
/-- Where a label stands, of the first lines. -/
def whO (l : List S37) (g : List Bool) : Nat → Int → Option Int
  | 0, _ => none
  | i + 1, k => if 0 < (l.getD i z37).f0 ∧ (l.getD i z37).f0 = k then some (atV l g i) else whO l g i k
theorem whM_get (l : List S37) (g : List Bool) (es : Mm) (k : Int) : ∀ i, get (whM l g es i) k = (whO l g i k).or (get es k)
  | 0 => rfl
  | i + 1 => by
    have ih := whM_get l g es k i
    unfold whM whO
    by_cases h : 0 < (l.getD i z37).f0
    · rw [if_pos h, get_up]
      by_cases h2 : k = (l.getD i z37).f0
      · rw [if_pos h2, if_pos ⟨h, h2.symm⟩]; rfl
      · rw [if_neg h2, if_neg (fun e => h2 e.2.symm), ih]
    · rw [if_neg h, if_neg (fun e => h e.1), ih]
theorem whO_any (l : List S37) (g g' : List Bool) (k : Int) : ∀ i, (whO l g i k).isSome = (whO l g' i k).isSome
  | 0 => rfl
  | i + 1 => by
    unfold whO
    by_cases h : 0 < (l.getD i z37).f0 ∧ (l.getD i z37).f0 = k
    · rw [if_pos h, if_pos h]; rfl
    · rw [if_neg h, if_neg h]; exact whO_any l g g' k i
def Dom (l : List S37) (es : Mm) : Prop := ∀ g k, whO l g l.length k = none → get es k = none
theorem whM_dom (l : List S37) (g : List Bool) (es : Mm) (h : Dom l es) (k : Int) : get (whM l g es l.length) k = whO l g l.length k := by
  rw [whM_get]
  cases h1 : whO l g l.length k with
  | some x => rfl
  | none => rw [h g k h1]; rfl
theorem dom_of (l : List S37) (g : List Bool) (es : Mm) (h : ∀ k, get es k = whO l g l.length k) : Dom l es := fun g' k hn => by
  rw [h k]
  have := whO_any l g g' k l.length
  rw [hn] at this
  cases h1 : whO l g l.length k with
  | none => rfl
  | some x => rw [h1] at this; cases this
def whV (l : List S37) (g : List Bool) (k : Int) : Int := (whO l g l.length k).getD 0
theorem whO_range (l : List S37) (g : List Bool) (k : Int) : ∀ i, 0 ≤ (whO l g i k).getD 0 ∧ (whO l g i k).getD 0 ≤ 2 * i
  | 0 => ⟨Int.le_refl _, Int.le_refl _⟩
  | i + 1 => by
    have := whO_range l g k i
    have := atV_range l g i
    unfold whO
    split
    · simp only [Option.getD_some]; omega
    · omega
/-- How far a branch goes. -/
def dV (l : List S37) (g : List Bool) (i : Nat) : Int := whV l g (l.getD i z37).f2 - atV l g i - 1
/-- Whether a line grows. -/
def farV (l : List S37) (g : List Bool) (i : Nat) : Bool :=
  !((l.getD i z37).f2 == 0) && !(g.getD i false) && ((l.getD i z37).f1.f0 == 39 || (l.getD i z37).f1.f0 == 40) && (decide (dV l g i < -32768) || decide (32768 ≤ dV l g i))
def gr (l : List S37) (g : List Bool) : Nat → List Bool
  | 0 => g
  | i + 1 => if farV l g i = true then (gr l g i).set i true else gr l g i
def tv (l : List S37) (g : List Bool) : Nat → Bool
  | 0 => false
  | i + 1 => farV l g i || tv l g i
theorem gr_len (l : List S37) (g : List Bool) : ∀ i, (gr l g i).length = g.length
  | 0 => rfl
  | i + 1 => by unfold gr; split; rw [List.length_set, gr_len l g i]; exact gr_len l g i
theorem gr_past (l : List S37) (g : List Bool) (j : Nat) : ∀ i, i ≤ j → (gr l g i).getD j false = g.getD j false
  | 0, _ => rfl
  | i + 1, h => by
    unfold gr
    split
    · rw [List.getD_eq_getElem?_getD, List.getElem?_set_ne (by omega), ← List.getD_eq_getElem?_getD]; exact gr_past l g j i (by omega)
    · exact gr_past l g j i (by omega)
theorem gr_none (l : List S37) (g : List Bool) : ∀ i, tv l g i = false → gr l g i = g
  | 0, _ => rfl
  | i + 1, h => by
    unfold tv at h
    rw [Bool.or_eq_false_iff] at h
    unfold gr
    rw [h.1, if_neg (by decide)]
    exact gr_none l g i h.2
/-- How many are not long. -/
def nl (g : List Bool) : Nat := g.countP fun b => !b
theorem nl_set : ∀ (g : List Bool) (i : Nat), i < g.length → g.getD i false = false → nl (g.set i true) + 1 = nl g
  | [], i, h, _ => by simp at h
  | b :: g, 0, _, h => by
    have : b = false := h
    subst this
    simp [nl]
  | b :: g, i + 1, h, h2 => by
    have := nl_set g i (by simpa using h) (by simpa using h2)
    simp only [nl, List.set_cons_succ, List.countP_cons] at this ⊢
    omega
theorem gr_nl (l : List S37) (g : List Bool) (hg : g.length = l.length) : ∀ i, i ≤ l.length → nl (gr l g i) ≤ nl g ∧ (tv l g i = true → nl (gr l g i) < nl g)
  | 0, _ => ⟨Nat.le_refl _, fun h => by cases h⟩
  | i + 1, h => by
    have ih := gr_nl l g hg i (by omega)
    unfold gr tv
    cases hf : farV l g i
    · rw [if_neg (by decide)]
      simpa using ih
    · rw [if_pos rfl]
      have hgi : g.getD i false = false := by
        unfold farV at hf
        simp only [Bool.and_eq_true, Bool.not_eq_true'] at hf
        exact hf.1.1.2
      have := nl_set (gr l g i) i (by rw [gr_len]; omega) (by rw [gr_past l g i i (Nat.le_refl _)]; exact hgi)
      exact ⟨by omega, fun _ => by omega⟩
def lay (l : List S37) : Nat → List Bool → List Bool
  | 0, g => g
  | k + 1, g => if tv l g l.length = true then lay l k (gr l g l.length) else g
def settle (l : List S37) : List Bool := lay l (l.length + 1) (List.replicate l.length false)
theorem nl_le (g : List Bool) : nl g ≤ g.length := List.countP_le_length
theorem lay_len (l : List S37) : ∀ k g, (lay l k g).length = g.length
  | 0, g => rfl
  | k + 1, g => by unfold lay; split; rw [lay_len l k, gr_len]; rfl
theorem made_rep (z : Value) (n : Nat) : madeCells #[z] n = (List.replicate n z).toArray := by
  apply Array.ext
  · simp [size_madeCells]
  · intro i h1 h2
    simp [madeCells]
    rw [show i % 1 = 0 by omega]
    rfl
theorem is_rep (n : Nat) (x : Int) : is (List.replicate n x) = (List.replicate n (.int .i64 x)).toArray := by simp [is]
theorem bs_rep (n : Nat) (x : Bool) : bs (List.replicate n x) = (List.replicate n (.bool x)).toArray := by simp [bs]
def zA (n : Nat) : List Int := List.replicate (n + 1) 0
def fA (n : Nat) : List Bool := List.replicate n false
theorem mk47 (n : Nat) (h : n ≤ 262144) (W : World) : (Instr.makeSlice 47 (.int .i64 ((n : Int) + 1)) (.int .i64 ((n : Int) + 1))).run Try.prog W = .ok (.slice (some ⟨W.heap.size, 0, none⟩) (n + 1) (n + 1)) (W.alloc (.cells (is (zA n)) 3)) := by
  have := print_make_int (P := Try.prog) 47 3 (.int .i64 0) 8 Try.underlying47 info3 rfl (by decide) ((n : Int) + 1) (by omega) (by omega) W
  rwa [show ((n : Int) + 1).toNat = n + 1 by omega, made_rep, ← is_rep] at this
theorem mk48 (n : Nat) (h : n ≤ 262144) (W : World) : (Instr.makeSlice 48 (.int .i64 (n : Int)) (.int .i64 (n : Int))).run Try.prog W = .ok (.slice (some ⟨W.heap.size, 0, none⟩) n n) (W.alloc (.cells (bs (fA n)) 4)) := by
  have := print_make_int (P := Try.prog) 48 4 (.bool false) 1 Try.underlying48 info4 rfl (by decide) (n : Int) (by omega) (by omega) W
  rwa [Int.toNat_natCast, made_rep, ← bs_rep] at this
theorem four {W : World} (o0 o1 o2 o3 : Obj) : ((((W.alloc o0).alloc o1).alloc o2).alloc o3).heap[W.heap.size]? = some o0 ∧ ((((W.alloc o0).alloc o1).alloc o2).alloc o3).heap[W.heap.size + 1]? = some o1 ∧ ((((W.alloc o0).alloc o1).alloc o2).alloc o3).heap[W.heap.size + 2]? = some o2 ∧ ((((W.alloc o0).alloc o1).alloc o2).alloc o3).heap[W.heap.size + 3]? = some o3 := by
  have h0 := blk_new W o0
  have h1 := blk_new (W.alloc o0) o1
  have h2 := blk_new ((W.alloc o0).alloc o1) o2
  have h3 := blk_new (((W.alloc o0).alloc o1).alloc o2) o3
  rw [show (W.alloc o0).heap.size = W.heap.size + 1 by simp] at h1
  rw [show ((W.alloc o0).alloc o1).heap.size = W.heap.size + 2 by simp] at h2
  rw [show (((W.alloc o0).alloc o1).alloc o2).heap.size = W.heap.size + 3 by simp] at h3
  exact ⟨blk_alloc (blk_alloc (blk_alloc h0 _) _) _, blk_alloc (blk_alloc h1 _) _, blk_alloc h2 _, h3⟩
theorem Ly.begin {w W : World} (h : Below w.heap.size w W) {n p ga gl m : Nat} {o0 o1 o2 o3 : Obj} (hp : w.heap.size ≤ p) (ha : w.heap.size ≤ ga) (hl : w.heap.size ≤ gl) (hm : w.heap.size ≤ m)
    (bp : ((((W.alloc o0).alloc o1).alloc o2).alloc o3).heap[p]? = some (.cells #[.slice (some ⟨ga, 0, none⟩) (n + 1) (n + 1), .slice (some ⟨gl, 0, none⟩) n n, .map (some m)] 50 (0, 0)))
    (ba : ((((W.alloc o0).alloc o1).alloc o2).alloc o3).heap[ga]? = some (.cells (is (zA n)) 3 (0, 0))) (bl : ((((W.alloc o0).alloc o1).alloc o2).alloc o3).heap[gl]? = some (.cells (bs (fA n)) 4 (0, 0)))
    (bm : ((((W.alloc o0).alloc o1).alloc o2).alloc o3).heap[m]? = some (.map #[] 0)) : Ly w ((((W.alloc o0).alloc o1).alloc o2).alloc o3) n p ga gl m (zA n) (fA n) [] :=
  ⟨bp, ba, bl, ⟨_, _, bm, rfl⟩, hp, ha, hl, hm, by simp [zA], by simp [fA], below_alloc (below_alloc (below_alloc (below_alloc h _) _) _) _⟩
/-- What laid leaves. -/
def RetL (w w1 : World) (l : List S37) (e : Ending) (w' : World) : Prop :=
  ∃ p ga gl m es, e = .returned (PP p) ∧ Aside0 (Ly w w' l.length p ga gl m (ats l (settle l)) (settle l) es) ∧ Aside0 (∀ k, get es k = whO l (settle l) l.length k) ∧ Aside0 (Below w1.heap.size w1 w')
set_option maxHeartbeats 32000000 in
set_option maxRecDepth 100000 in
theorem laid_calls {w : World} {A : Option Addr} {l : List S37} {c : Nat} (hL : Aside0 (Kd.C k37 w A l.length l)) (hlen : l.length ≤ 262144) :
    Calls Try.prog 17 #[.slice A l.length c] w (RetL w w l) := by
  have hmk47 := mk47 l.length hlen
  have hmk48 := mk48 l.length hlen
  have hmm := @run_makeMap Try.prog
  have hwr0 : IntKind.i64.wrap ((l.length : Int) + 1) = (l.length : Int) + 1 := IntWalk.i64_in _ (by omega)
  go_enter Try.func17, Try.ntmps17
  go_upto_region 1 with (fail)
  go_cut [3] (fun u3 wx => ∃ p ga gl m : Nat, u3 = PP p ∧ Aside0 (Ly w wx l.length p ga gl m (zA l.length) (fA l.length) []))
  case first =>
    refine start_ (n := 11) (S := fun w' => True) (ds := []) #[false, false, false, false, false, false, false, false, false, false, false] (by kernel_rfl) rfl rfl (trivial) (fun hHeld => ?_)
    have hb0 : Aside0 (Below w.heap.size w w.drew) := ⟨below_drew (Below.refl _ _)⟩
    generalize w.drew = w2 at *
    refine pure_ (i := 0) (N := some 8) (v := ?_) (a' := ?_) #[true, false, false, false, false, false, false, false, false, false, false] rfl rfl (by kernel_rfl) (fun _ _ _ h => h) (Or.inl ⟨by rfl, ?_⟩) ?_ ?_
    rotate_left
    · intro w'
      go_simp
      try with_reducible rfl
    rotate_left
    · simp only [Act.put, List.setIfInBounds_toArray, List.set_cons_zero, List.set_cons_succ]
      rfl
    refine pure_ (i := 1) (N := some 9) (v := ?_) (a' := ?_) #[true, true, false, false, false, false, false, false, false, false, false] rfl rfl (by kernel_rfl) (fun _ _ _ h => h) (Or.inl ⟨by rfl, ?_⟩) ?_ ?_
    rotate_left
    · intro w'
      go_simp
      try with_reducible rfl
    rotate_left
    · simp only [Act.put, List.setIfInBounds_toArray, List.set_cons_zero, List.set_cons_succ]
      rfl
    refine pure_ (i := 2) (N := some 10) (v := ?_) (a' := ?_) #[true, true, true, false, false, false, false, false, false, false, false] rfl rfl (by kernel_rfl) (fun _ _ _ h => h) (Or.inl ⟨by rfl, ?_⟩) ?_ ?_
    rotate_left
    · intro w'
      go_simp
      try with_reducible rfl
    rotate_left
    · simp only [Act.put, List.setIfInBounds_toArray, List.set_cons_zero, List.set_cons_succ]
      rfl
    refine pure_ (i := 4) (N := some 12) (v := ?_) (a' := ?_) #[true, true, true, false, true, false, false, false, false, false, false] rfl rfl (by kernel_rfl) (fun _ _ _ h => h) (Or.inl ⟨by rfl, ?_⟩) ?_ ?_
    rotate_left
    · intro w'
      go_simp
      try with_reducible rfl
    rotate_left
    · simp only [Act.put, List.setIfInBounds_toArray, List.set_cons_zero, List.set_cons_succ]
      rfl
    refine pure_ (i := 5) (N := some 13) (v := ?_) (a' := ?_) #[true, true, true, false, true, true, false, false, false, false, false] rfl rfl (by kernel_rfl) (fun _ _ _ h => h) (Or.inl ⟨by rfl, ?_⟩) ?_ ?_
    rotate_left
    · intro w'
      go_simp
      try with_reducible rfl
    rotate_left
    · simp only [Act.put, List.setIfInBounds_toArray, List.set_cons_zero, List.set_cons_succ]
      rfl
    refine three_ (i := 3) (j := 6) (k := 7) (Ni := some 11) (Nj := some 14) (Nk := some 15) #[true, true, true, true, true, true, false, false, false, false, false] #[true, true, true, false, true, true, true, false, false, false, false] #[true, true, true, false, true, true, false, true, false, false, false] rfl rfl rfl rfl rfl rfl (by kernel_rfl) (by decide) (by decide) (by decide) (fun K hK => ?_) (fun K hK => ?_) (fun K hK => ?_)
    · refine value_ (w1 := (w2).alloc (.cells (is (zA l.length)) 3)) (v := .slice (some ⟨w2.heap.size, 0, none⟩) (l.length + 1) (l.length + 1)) (by rfl) rfl (by go_simp) ?_
      refine hK.out _ _ trivial (fun hHeld => ?_)
      clear hK K
      refine norm_ (a' := ?_) ?_ ?_
      rotate_left
      · simp only [Act.put, List.setIfInBounds_toArray, List.set_cons_zero, List.set_cons_succ]
        rfl
      refine two_ (i := 6) (j := 7) (Ni := some 14) (Nj := some 15) #[true, true, true, true, true, true, true, false, false, false, false] #[true, true, true, true, true, true, false, true, false, false, false] rfl rfl rfl rfl (by kernel_rfl) (by decide) (by decide) (fun K hK => ?_) (fun K hK => ?_)
      · refine value_ (w1 := ((w2).alloc (.cells (is (zA l.length)) 3)).alloc (.cells (bs (fA l.length)) 4)) (v := .slice (some ⟨w2.heap.size + 1, 0, none⟩) l.length l.length) (by rfl) rfl (by go_simp) ?_
        refine hK.out _ _ trivial (fun hHeld => ?_)
        clear hK K
        refine norm_ (a' := ?_) ?_ ?_
        rotate_left
        · simp only [Act.put, List.setIfInBounds_toArray, List.set_cons_zero, List.set_cons_succ]
          rfl
        refine one_ (i := 7) (N := some 15) #[true, true, true, true, true, true, true, true, false, false, false] rfl rfl (by kernel_rfl) (by decide) (fun K hK => ?_)
        refine value_ (w1 := (((w2).alloc (.cells (is (zA l.length)) 3)).alloc (.cells (bs (fA l.length)) 4)).alloc (.map #[] 0)) (v := .map (some (w2.heap.size + 2))) (by rfl) rfl (by go_simp) ?_
        refine hK.out _ _ trivial (fun hHeld => ?_)
        clear hK K
        refine norm_ (a' := ?_) ?_ ?_
        rotate_left
        · simp only [Act.put, List.setIfInBounds_toArray, List.set_cons_zero, List.set_cons_succ]
          rfl
        refine pure_ (i := 8) (N := some 16) (v := ?_) (a' := ?_) #[true, true, true, true, true, true, true, true, true, false, false] rfl rfl (by kernel_rfl) (fun _ _ _ h => h) (Or.inl ⟨by rfl, ?_⟩) ?_ ?_
        rotate_left
        · intro w'
          go_simp
          try with_reducible rfl
        rotate_left
        · simp only [Act.put, List.setIfInBounds_toArray, List.set_cons_zero, List.set_cons_succ]
          rfl
        refine one_ (i := 9) (N := some 17) #[true, true, true, true, true, true, true, true, true, true, false] rfl rfl (by kernel_rfl) (by decide) (fun K hK => ?_)
        refine value_ (w1 := ((((w2).alloc (.cells (is (zA l.length)) 3)).alloc (.cells (bs (fA l.length)) 4)).alloc (.map #[] 0)).alloc (.cells #[.slice (some ⟨w2.heap.size, 0, none⟩) (l.length + 1) (l.length + 1), .slice (some ⟨w2.heap.size + 1, 0, none⟩) l.length l.length, .map (some (w2.heap.size + 2))] 50)) (v := .pointer (some ⟨w2.heap.size + 3, 0, none⟩)) (by rfl) rfl (by go_simp) ?_
        refine hK.out _ _ trivial (fun hHeld => ?_)
        clear hK K
        refine norm_ (a' := ?_) ?_ ?_
        rotate_left
        · simp only [Act.put, List.setIfInBounds_toArray, List.set_cons_zero, List.set_cons_succ]
          rfl
        refine pure_ (i := 10) (N := some 3) (v := ?_) (a' := ?_) #[true, true, true, true, true, true, true, true, true, true, true] rfl rfl (by kernel_rfl) (fun _ _ _ h => h) (Or.inl ⟨by rfl, ?_⟩) ?_ ?_
        rotate_left
        · intro w'
          go_simp
          try with_reducible rfl
        rotate_left
        · simp only [Act.put, List.setIfInBounds_toArray, List.set_cons_zero, List.set_cons_succ]
          rfl
        refine done_ (by kernel_rfl) ?_
        go_wp2_with fail
        go_meet
        have hs := hb0.out.size
        exact ⟨w2.heap.size + 3, w2.heap.size, w2.heap.size + 1, w2.heap.size + 2, rfl, ⟨Ly.begin hb0.out (by omega) (by omega) (by omega) (by omega) (four _ _ _ _).2.2.2 (four _ _ _ _).1 (four _ _ _ _).2.1 (four _ _ _ _).2.2.1⟩⟩
      · refine value_ (w1 := ((w2).alloc (.cells (is (zA l.length)) 3)).alloc (.map #[] 0)) (v := .map (some (w2.heap.size + 1))) (by rfl) rfl (by go_simp) ?_
        refine hK.out _ _ trivial (fun hHeld => ?_)
        clear hK K
        refine norm_ (a' := ?_) ?_ ?_
        rotate_left
        · simp only [Act.put, List.setIfInBounds_toArray, List.set_cons_zero, List.set_cons_succ]
          rfl
        refine one_ (i := 6) (N := some 14) #[true, true, true, true, true, true, true, true, false, false, false] rfl rfl (by kernel_rfl) (by decide) (fun K hK => ?_)
        refine value_ (w1 := (((w2).alloc (.cells (is (zA l.length)) 3)).alloc (.map #[] 0)).alloc (.cells (bs (fA l.length)) 4)) (v := .slice (some ⟨w2.heap.size + 2, 0, none⟩) l.length l.length) (by rfl) rfl (by go_simp) ?_
        refine hK.out _ _ trivial (fun hHeld => ?_)
        clear hK K
        refine norm_ (a' := ?_) ?_ ?_
        rotate_left
        · simp only [Act.put, List.setIfInBounds_toArray, List.set_cons_zero, List.set_cons_succ]
          rfl
        refine pure_ (i := 8) (N := some 16) (v := ?_) (a' := ?_) #[true, true, true, true, true, true, true, true, true, false, false] rfl rfl (by kernel_rfl) (fun _ _ _ h => h) (Or.inl ⟨by rfl, ?_⟩) ?_ ?_
        rotate_left
        · intro w'
          go_simp
          try with_reducible rfl
        rotate_left
        · simp only [Act.put, List.setIfInBounds_toArray, List.set_cons_zero, List.set_cons_succ]
          rfl
        refine one_ (i := 9) (N := some 17) #[true, true, true, true, true, true, true, true, true, true, false] rfl rfl (by kernel_rfl) (by decide) (fun K hK => ?_)
        refine value_ (w1 := ((((w2).alloc (.cells (is (zA l.length)) 3)).alloc (.map #[] 0)).alloc (.cells (bs (fA l.length)) 4)).alloc (.cells #[.slice (some ⟨w2.heap.size, 0, none⟩) (l.length + 1) (l.length + 1), .slice (some ⟨w2.heap.size + 2, 0, none⟩) l.length l.length, .map (some (w2.heap.size + 1))] 50)) (v := .pointer (some ⟨w2.heap.size + 3, 0, none⟩)) (by rfl) rfl (by go_simp) ?_
        refine hK.out _ _ trivial (fun hHeld => ?_)
        clear hK K
        refine norm_ (a' := ?_) ?_ ?_
        rotate_left
        · simp only [Act.put, List.setIfInBounds_toArray, List.set_cons_zero, List.set_cons_succ]
          rfl
        refine pure_ (i := 10) (N := some 3) (v := ?_) (a' := ?_) #[true, true, true, true, true, true, true, true, true, true, true] rfl rfl (by kernel_rfl) (fun _ _ _ h => h) (Or.inl ⟨by rfl, ?_⟩) ?_ ?_
        rotate_left
        · intro w'
          go_simp
          try with_reducible rfl
        rotate_left
        · simp only [Act.put, List.setIfInBounds_toArray, List.set_cons_zero, List.set_cons_succ]
          rfl
        refine done_ (by kernel_rfl) ?_
        go_wp2_with fail
        go_meet
        have hs := hb0.out.size
        exact ⟨w2.heap.size + 3, w2.heap.size, w2.heap.size + 2, w2.heap.size + 1, rfl, ⟨Ly.begin hb0.out (by omega) (by omega) (by omega) (by omega) (four _ _ _ _).2.2.2 (four _ _ _ _).1 (four _ _ _ _).2.2.1 (four _ _ _ _).2.1⟩⟩
    · refine value_ (w1 := (w2).alloc (.cells (bs (fA l.length)) 4)) (v := .slice (some ⟨w2.heap.size, 0, none⟩) l.length l.length) (by rfl) rfl (by go_simp) ?_
      refine hK.out _ _ trivial (fun hHeld => ?_)
      clear hK K
      refine norm_ (a' := ?_) ?_ ?_
      rotate_left
      · simp only [Act.put, List.setIfInBounds_toArray, List.set_cons_zero, List.set_cons_succ]
        rfl
      refine two_ (i := 3) (j := 7) (Ni := some 11) (Nj := some 15) #[true, true, true, true, true, true, true, false, false, false, false] #[true, true, true, false, true, true, true, true, false, false, false] rfl rfl rfl rfl (by kernel_rfl) (by decide) (by decide) (fun K hK => ?_) (fun K hK => ?_)
      · refine value_ (w1 := ((w2).alloc (.cells (bs (fA l.length)) 4)).alloc (.cells (is (zA l.length)) 3)) (v := .slice (some ⟨w2.heap.size + 1, 0, none⟩) (l.length + 1) (l.length + 1)) (by rfl) rfl (by go_simp) ?_
        refine hK.out _ _ trivial (fun hHeld => ?_)
        clear hK K
        refine norm_ (a' := ?_) ?_ ?_
        rotate_left
        · simp only [Act.put, List.setIfInBounds_toArray, List.set_cons_zero, List.set_cons_succ]
          rfl
        refine one_ (i := 7) (N := some 15) #[true, true, true, true, true, true, true, true, false, false, false] rfl rfl (by kernel_rfl) (by decide) (fun K hK => ?_)
        refine value_ (w1 := (((w2).alloc (.cells (bs (fA l.length)) 4)).alloc (.cells (is (zA l.length)) 3)).alloc (.map #[] 0)) (v := .map (some (w2.heap.size + 2))) (by rfl) rfl (by go_simp) ?_
        refine hK.out _ _ trivial (fun hHeld => ?_)
        clear hK K
        refine norm_ (a' := ?_) ?_ ?_
        rotate_left
        · simp only [Act.put, List.setIfInBounds_toArray, List.set_cons_zero, List.set_cons_succ]
          rfl
        refine pure_ (i := 8) (N := some 16) (v := ?_) (a' := ?_) #[true, true, true, true, true, true, true, true, true, false, false] rfl rfl (by kernel_rfl) (fun _ _ _ h => h) (Or.inl ⟨by rfl, ?_⟩) ?_ ?_
        rotate_left
        · intro w'
          go_simp
          try with_reducible rfl
        rotate_left
        · simp only [Act.put, List.setIfInBounds_toArray, List.set_cons_zero, List.set_cons_succ]
          rfl
        refine one_ (i := 9) (N := some 17) #[true, true, true, true, true, true, true, true, true, true, false] rfl rfl (by kernel_rfl) (by decide) (fun K hK => ?_)
        refine value_ (w1 := ((((w2).alloc (.cells (bs (fA l.length)) 4)).alloc (.cells (is (zA l.length)) 3)).alloc (.map #[] 0)).alloc (.cells #[.slice (some ⟨w2.heap.size + 1, 0, none⟩) (l.length + 1) (l.length + 1), .slice (some ⟨w2.heap.size, 0, none⟩) l.length l.length, .map (some (w2.heap.size + 2))] 50)) (v := .pointer (some ⟨w2.heap.size + 3, 0, none⟩)) (by rfl) rfl (by go_simp) ?_
        refine hK.out _ _ trivial (fun hHeld => ?_)
        clear hK K
        refine norm_ (a' := ?_) ?_ ?_
        rotate_left
        · simp only [Act.put, List.setIfInBounds_toArray, List.set_cons_zero, List.set_cons_succ]
          rfl
        refine pure_ (i := 10) (N := some 3) (v := ?_) (a' := ?_) #[true, true, true, true, true, true, true, true, true, true, true] rfl rfl (by kernel_rfl) (fun _ _ _ h => h) (Or.inl ⟨by rfl, ?_⟩) ?_ ?_
        rotate_left
        · intro w'
          go_simp
          try with_reducible rfl
        rotate_left
        · simp only [Act.put, List.setIfInBounds_toArray, List.set_cons_zero, List.set_cons_succ]
          rfl
        refine done_ (by kernel_rfl) ?_
        go_wp2_with fail
        go_meet
        have hs := hb0.out.size
        exact ⟨w2.heap.size + 3, w2.heap.size + 1, w2.heap.size, w2.heap.size + 2, rfl, ⟨Ly.begin hb0.out (by omega) (by omega) (by omega) (by omega) (four _ _ _ _).2.2.2 (four _ _ _ _).2.1 (four _ _ _ _).1 (four _ _ _ _).2.2.1⟩⟩
      · refine value_ (w1 := ((w2).alloc (.cells (bs (fA l.length)) 4)).alloc (.map #[] 0)) (v := .map (some (w2.heap.size + 1))) (by rfl) rfl (by go_simp) ?_
        refine hK.out _ _ trivial (fun hHeld => ?_)
        clear hK K
        refine norm_ (a' := ?_) ?_ ?_
        rotate_left
        · simp only [Act.put, List.setIfInBounds_toArray, List.set_cons_zero, List.set_cons_succ]
          rfl
        refine one_ (i := 3) (N := some 11) #[true, true, true, true, true, true, true, true, false, false, false] rfl rfl (by kernel_rfl) (by decide) (fun K hK => ?_)
        refine value_ (w1 := (((w2).alloc (.cells (bs (fA l.length)) 4)).alloc (.map #[] 0)).alloc (.cells (is (zA l.length)) 3)) (v := .slice (some ⟨w2.heap.size + 2, 0, none⟩) (l.length + 1) (l.length + 1)) (by rfl) rfl (by go_simp) ?_
        refine hK.out _ _ trivial (fun hHeld => ?_)
        clear hK K
        refine norm_ (a' := ?_) ?_ ?_
        rotate_left
        · simp only [Act.put, List.setIfInBounds_toArray, List.set_cons_zero, List.set_cons_succ]
          rfl
        refine pure_ (i := 8) (N := some 16) (v := ?_) (a' := ?_) #[true, true, true, true, true, true, true, true, true, false, false] rfl rfl (by kernel_rfl) (fun _ _ _ h => h) (Or.inl ⟨by rfl, ?_⟩) ?_ ?_
        rotate_left
        · intro w'
          go_simp
          try with_reducible rfl
        rotate_left
        · simp only [Act.put, List.setIfInBounds_toArray, List.set_cons_zero, List.set_cons_succ]
          rfl
        refine one_ (i := 9) (N := some 17) #[true, true, true, true, true, true, true, true, true, true, false] rfl rfl (by kernel_rfl) (by decide) (fun K hK => ?_)
        refine value_ (w1 := ((((w2).alloc (.cells (bs (fA l.length)) 4)).alloc (.map #[] 0)).alloc (.cells (is (zA l.length)) 3)).alloc (.cells #[.slice (some ⟨w2.heap.size + 2, 0, none⟩) (l.length + 1) (l.length + 1), .slice (some ⟨w2.heap.size, 0, none⟩) l.length l.length, .map (some (w2.heap.size + 1))] 50)) (v := .pointer (some ⟨w2.heap.size + 3, 0, none⟩)) (by rfl) rfl (by go_simp) ?_
        refine hK.out _ _ trivial (fun hHeld => ?_)
        clear hK K
        refine norm_ (a' := ?_) ?_ ?_
        rotate_left
        · simp only [Act.put, List.setIfInBounds_toArray, List.set_cons_zero, List.set_cons_succ]
          rfl
        refine pure_ (i := 10) (N := some 3) (v := ?_) (a' := ?_) #[true, true, true, true, true, true, true, true, true, true, true] rfl rfl (by kernel_rfl) (fun _ _ _ h => h) (Or.inl ⟨by rfl, ?_⟩) ?_ ?_
        rotate_left
        · intro w'
          go_simp
          try with_reducible rfl
        rotate_left
        · simp only [Act.put, List.setIfInBounds_toArray, List.set_cons_zero, List.set_cons_succ]
          rfl
        refine done_ (by kernel_rfl) ?_
        go_wp2_with fail
        go_meet
        have hs := hb0.out.size
        exact ⟨w2.heap.size + 3, w2.heap.size + 2, w2.heap.size, w2.heap.size + 1, rfl, ⟨Ly.begin hb0.out (by omega) (by omega) (by omega) (by omega) (four _ _ _ _).2.2.2 (four _ _ _ _).2.2.1 (four _ _ _ _).1 (four _ _ _ _).2.1⟩⟩
    · refine value_ (w1 := (w2).alloc (.map #[] 0)) (v := .map (some (w2.heap.size))) (by rfl) rfl (by go_simp) ?_
      refine hK.out _ _ trivial (fun hHeld => ?_)
      clear hK K
      refine norm_ (a' := ?_) ?_ ?_
      rotate_left
      · simp only [Act.put, List.setIfInBounds_toArray, List.set_cons_zero, List.set_cons_succ]
        rfl
      refine two_ (i := 3) (j := 6) (Ni := some 11) (Nj := some 14) #[true, true, true, true, true, true, false, true, false, false, false] #[true, true, true, false, true, true, true, true, false, false, false] rfl rfl rfl rfl (by kernel_rfl) (by decide) (by decide) (fun K hK => ?_) (fun K hK => ?_)
      · refine value_ (w1 := ((w2).alloc (.map #[] 0)).alloc (.cells (is (zA l.length)) 3)) (v := .slice (some ⟨w2.heap.size + 1, 0, none⟩) (l.length + 1) (l.length + 1)) (by rfl) rfl (by go_simp) ?_
        refine hK.out _ _ trivial (fun hHeld => ?_)
        clear hK K
        refine norm_ (a' := ?_) ?_ ?_
        rotate_left
        · simp only [Act.put, List.setIfInBounds_toArray, List.set_cons_zero, List.set_cons_succ]
          rfl
        refine one_ (i := 6) (N := some 14) #[true, true, true, true, true, true, true, true, false, false, false] rfl rfl (by kernel_rfl) (by decide) (fun K hK => ?_)
        refine value_ (w1 := (((w2).alloc (.map #[] 0)).alloc (.cells (is (zA l.length)) 3)).alloc (.cells (bs (fA l.length)) 4)) (v := .slice (some ⟨w2.heap.size + 2, 0, none⟩) l.length l.length) (by rfl) rfl (by go_simp) ?_
        refine hK.out _ _ trivial (fun hHeld => ?_)
        clear hK K
        refine norm_ (a' := ?_) ?_ ?_
        rotate_left
        · simp only [Act.put, List.setIfInBounds_toArray, List.set_cons_zero, List.set_cons_succ]
          rfl
        refine pure_ (i := 8) (N := some 16) (v := ?_) (a' := ?_) #[true, true, true, true, true, true, true, true, true, false, false] rfl rfl (by kernel_rfl) (fun _ _ _ h => h) (Or.inl ⟨by rfl, ?_⟩) ?_ ?_
        rotate_left
        · intro w'
          go_simp
          try with_reducible rfl
        rotate_left
        · simp only [Act.put, List.setIfInBounds_toArray, List.set_cons_zero, List.set_cons_succ]
          rfl
        refine one_ (i := 9) (N := some 17) #[true, true, true, true, true, true, true, true, true, true, false] rfl rfl (by kernel_rfl) (by decide) (fun K hK => ?_)
        refine value_ (w1 := ((((w2).alloc (.map #[] 0)).alloc (.cells (is (zA l.length)) 3)).alloc (.cells (bs (fA l.length)) 4)).alloc (.cells #[.slice (some ⟨w2.heap.size + 1, 0, none⟩) (l.length + 1) (l.length + 1), .slice (some ⟨w2.heap.size + 2, 0, none⟩) l.length l.length, .map (some (w2.heap.size))] 50)) (v := .pointer (some ⟨w2.heap.size + 3, 0, none⟩)) (by rfl) rfl (by go_simp) ?_
        refine hK.out _ _ trivial (fun hHeld => ?_)
        clear hK K
        refine norm_ (a' := ?_) ?_ ?_
        rotate_left
        · simp only [Act.put, List.setIfInBounds_toArray, List.set_cons_zero, List.set_cons_succ]
          rfl
        refine pure_ (i := 10) (N := some 3) (v := ?_) (a' := ?_) #[true, true, true, true, true, true, true, true, true, true, true] rfl rfl (by kernel_rfl) (fun _ _ _ h => h) (Or.inl ⟨by rfl, ?_⟩) ?_ ?_
        rotate_left
        · intro w'
          go_simp
          try with_reducible rfl
        rotate_left
        · simp only [Act.put, List.setIfInBounds_toArray, List.set_cons_zero, List.set_cons_succ]
          rfl
        refine done_ (by kernel_rfl) ?_
        go_wp2_with fail
        go_meet
        have hs := hb0.out.size
        exact ⟨w2.heap.size + 3, w2.heap.size + 1, w2.heap.size + 2, w2.heap.size, rfl, ⟨Ly.begin hb0.out (by omega) (by omega) (by omega) (by omega) (four _ _ _ _).2.2.2 (four _ _ _ _).2.1 (four _ _ _ _).2.2.1 (four _ _ _ _).1⟩⟩
      · refine value_ (w1 := ((w2).alloc (.map #[] 0)).alloc (.cells (bs (fA l.length)) 4)) (v := .slice (some ⟨w2.heap.size + 1, 0, none⟩) l.length l.length) (by rfl) rfl (by go_simp) ?_
        refine hK.out _ _ trivial (fun hHeld => ?_)
        clear hK K
        refine norm_ (a' := ?_) ?_ ?_
        rotate_left
        · simp only [Act.put, List.setIfInBounds_toArray, List.set_cons_zero, List.set_cons_succ]
          rfl
        refine one_ (i := 3) (N := some 11) #[true, true, true, true, true, true, true, true, false, false, false] rfl rfl (by kernel_rfl) (by decide) (fun K hK => ?_)
        refine value_ (w1 := (((w2).alloc (.map #[] 0)).alloc (.cells (bs (fA l.length)) 4)).alloc (.cells (is (zA l.length)) 3)) (v := .slice (some ⟨w2.heap.size + 2, 0, none⟩) (l.length + 1) (l.length + 1)) (by rfl) rfl (by go_simp) ?_
        refine hK.out _ _ trivial (fun hHeld => ?_)
        clear hK K
        refine norm_ (a' := ?_) ?_ ?_
        rotate_left
        · simp only [Act.put, List.setIfInBounds_toArray, List.set_cons_zero, List.set_cons_succ]
          rfl
        refine pure_ (i := 8) (N := some 16) (v := ?_) (a' := ?_) #[true, true, true, true, true, true, true, true, true, false, false] rfl rfl (by kernel_rfl) (fun _ _ _ h => h) (Or.inl ⟨by rfl, ?_⟩) ?_ ?_
        rotate_left
        · intro w'
          go_simp
          try with_reducible rfl
        rotate_left
        · simp only [Act.put, List.setIfInBounds_toArray, List.set_cons_zero, List.set_cons_succ]
          rfl
        refine one_ (i := 9) (N := some 17) #[true, true, true, true, true, true, true, true, true, true, false] rfl rfl (by kernel_rfl) (by decide) (fun K hK => ?_)
        refine value_ (w1 := ((((w2).alloc (.map #[] 0)).alloc (.cells (bs (fA l.length)) 4)).alloc (.cells (is (zA l.length)) 3)).alloc (.cells #[.slice (some ⟨w2.heap.size + 2, 0, none⟩) (l.length + 1) (l.length + 1), .slice (some ⟨w2.heap.size + 1, 0, none⟩) l.length l.length, .map (some (w2.heap.size))] 50)) (v := .pointer (some ⟨w2.heap.size + 3, 0, none⟩)) (by rfl) rfl (by go_simp) ?_
        refine hK.out _ _ trivial (fun hHeld => ?_)
        clear hK K
        refine norm_ (a' := ?_) ?_ ?_
        rotate_left
        · simp only [Act.put, List.setIfInBounds_toArray, List.set_cons_zero, List.set_cons_succ]
          rfl
        refine pure_ (i := 10) (N := some 3) (v := ?_) (a' := ?_) #[true, true, true, true, true, true, true, true, true, true, true] rfl rfl (by kernel_rfl) (fun _ _ _ h => h) (Or.inl ⟨by rfl, ?_⟩) ?_ ?_
        rotate_left
        · intro w'
          go_simp
          try with_reducible rfl
        rotate_left
        · simp only [Act.put, List.setIfInBounds_toArray, List.set_cons_zero, List.set_cons_succ]
          rfl
        refine done_ (by kernel_rfl) ?_
        go_wp2_with fail
        go_meet
        have hs := hb0.out.size
        exact ⟨w2.heap.size + 3, w2.heap.size + 2, w2.heap.size + 1, w2.heap.size, rfl, ⟨Ly.begin hb0.out (by omega) (by omega) (by omega) (by omega) (four _ _ _ _).2.2.2 (four _ _ _ _).2.2.1 (four _ _ _ _).2.1 (four _ _ _ _).1⟩⟩
  case rest =>
  obtain ⟨p, ga, gl, m, rfl, hY0⟩ := hcut
  clear hmk47 hmk48 hmm hwr0
  have hs0 : Aside0 (settle l = lay l (l.length + 1) (fA l.length)) := ⟨rfl⟩
  have hn0 : Aside0 (nl (fA l.length) < l.length + 1) := ⟨by have := nl_le (fA l.length); simp only [fA, List.length_replicate] at this ⊢; omega⟩
  have hd0 : Aside0 (Dom l []) := ⟨fun _ _ _ => rfl⟩
  generalize zA l.length = a0 at *
  generalize fA l.length = g0 at *
  go_wp2_with fail
  go_loopg [2] (l.length + 1) (fun kq u2 wr => ∃ (kg : Nat) (g : List Bool) (a : List Int) (es : Mm), kg = kq ∧ u2 = .pointer none ∧ Aside0 (Ly w wr l.length p ga gl m a g es) ∧ Aside0 (settle l = lay l kq g) ∧ Aside0 (nl g < kq) ∧ Aside0 (Dom l es))
  case atStart => exact ⟨_, g0, a0, [], rfl, rfl, hY0, hs0, hn0, hd0⟩
  case round =>
    clear hY0 hs0 hn0 hd0
    obtain ⟨kg, g, a, es, rfl, rfl, hY, hst, hnl, hdom⟩ := hrel
    have hes := Aside0.mk (whM_dom l g es hdom.out)
    have hgl : Aside0 (g.length = l.length) := ⟨hY.out.lg⟩
    go_upto_region 3 with (go_at_call 28; (with_reducible refine (place_calls hL hlen hY).mono ?_); rintro e w1 ⟨rfl, hY1⟩; replace hY1 := Aside0.mk hY1)
    generalize whM l g es l.length = es1 at *
    clear hY hdom
    go_wp2_with fail
    go_loopw [4, 23] (fun u4 u23 wr => ∃ i : Nat, i ≤ l.length ∧ u23 = .int .i64 i ∧ u4 = .bool (tv l g i) ∧ Aside0 (Ly w wr l.length p ga gl m (ats l g) (gr l g i) es1)) (fun _ u _ => l.length - (intOf u).toNat)
    case atStart => exact ⟨0, Nat.zero_le _, rfl, rfl, hY1⟩
    case round =>
      clear hY1
      obtain ⟨i, hi, rfl, rfl, hY⟩ := hrel
      by_cases hlt : i < l.length
      · obtain ⟨ad, ea, c0, c1, c2, c3, c4, c5, c6⟩ := at_T37 (Kd.C_below hL.out hY.out.bel) (i : Int) (by omega) (by omega)
        subst ea
        simp only [Int.toNat_natCast, rd_L] at c0 c1 c2 c3 c4 c5 c6
        have hr := Aside0.mk (atV_range l g i)
        have hw := Aside0.mk (whO_range l g (l.getD i z37).f2 l.length)
        have htv : Aside0 (tv l g (i + 1) = (farV l g i || tv l g i)) := ⟨rfl⟩
        have hgr : Aside0 (gr l g (i + 1) = if farV l g i = true then (gr l g i).set i true else gr l g i) := ⟨rfl⟩
        have hdd : Aside0 (dV l g i = whV l g (l.getD i z37).f2 - atV l g i - 1) := ⟨rfl⟩
        have hgd : Aside0 ((gr l g i).getD i false = g.getD i false) := ⟨gr_past l g i i (Nat.le_refl _)⟩
        have hfv : Aside0 (farV l g i = (!((l.getD i z37).f2 == 0) && !(g.getD i false) && ((l.getD i z37).f1.f0 == 39 || (l.getD i z37).f1.f0 == 40) && (decide (dV l g i < -32768) || decide (32768 ≤ dV l g i)))) := ⟨rfl⟩
        have hlk : Aside0 ((get es1 (l.getD i z37).f2).getD 0 = whV l g (l.getD i z37).f2) := ⟨by rw [hes.out]; rfl⟩
        have hX := Aside0.mk (blk_new wr (lb (l.getD i z37)))
        replace hY := Aside0.mk (hY.out.below (below_alloc (Below.refl wr.heap.size wr) (lb (l.getD i z37))))
        have q0 : (0 : Int) ≤ (i : Int) := by omega
        have q1 : (i : Int) < (l.length : Int) := by omega
        have q2 : (i : Int) < (l.length : Int) + 1 := by omega
        have ap1 := add_plain ga i
        have ap2 := add_plain gl i
        have hwl : Aside0 (0 ≤ whV l g (l.getD i z37).f2 ∧ whV l g (l.getD i z37).f2 ≤ 2 * l.length) := ⟨hw.out⟩
        clear hw
        generalize l.getD i z37 = x at *
        go_upto_region 7 with (fail)
        generalize wr.alloc (lb x) = W at *
        have p1 := (blk_cell hX.out 1).trans (show _ = some (.int .i64 x.f1.f0) from rfl)
        have p6 := (blk_cell hX.out 6).trans (show _ = some (.int .i64 x.f2) from rfl)
        have y0 := (blk_cell hY.out.bp 0).trans (show _ = some (.slice (some ⟨ga, 0, none⟩) (l.length + 1) (l.length + 1)) from rfl)
        have y1 := (blk_cell hY.out.bp 1).trans (show _ = some (.slice (some ⟨gl, 0, none⟩) l.length l.length) from rfl)
        have y2 := (blk_cell hY.out.bp 2).trans (show _ = some (.map (some m)) from rfl)
        have hcl := bs_cell hY.out.bl i (by rw [hY.out.lg]; exact hlt)
        rw [hgd.out] at hcl
        have hfl : W.frozen? ⟨gl, i, none⟩ = false := blk_frozen hY.out.bl i
        have hca := is_cell hY.out.ba i (by rw [hY.out.la]; omega)
        rw [ats_at l g i (by omega)] at hca
        generalize g.getD i false = bi at *
        by_cases k1 : x.f2 = 0
        · have f0 : farV l g i = false := by rw [hfv.out, k1]; rfl
          rw [f0] at htv hgr
          replace f0 := Aside0.mk f0
          go_wp2_with fail
          go_roundw
          case rel => exact ⟨i + 1, by omega, by go_num, by rw [htv.out]; rfl, ⟨by rw [hgr.out]; exact hY.out⟩⟩
          case measure => simp [intOf]; omega
        · have k1' : (x.f2 == 0) = false := beq_eq_false_iff_ne.2 k1
          cases bi
          · by_cases k3 : x.f1.f0 = 39 ∨ x.f1.f0 = 40
            · have k39 : Aside0 ((x.f1.f0 == 39 || x.f1.f0 == 40) = true) := ⟨by simpa using k3⟩
              have hw1 : IntKind.i64.wrap (whV l g x.f2 - atV l g i) = whV l g x.f2 - atV l g i := IntWalk.i64_in _ (by have := hwl.out; have := hr.out; omega)
              have hw2 : IntKind.i64.wrap (whV l g x.f2 - atV l g i - 1) = whV l g x.f2 - atV l g i - 1 := IntWalk.i64_in _ (by have := hwl.out; have := hr.out; omega)
              rw [k39.out, k1'] at hfv
              have hlkm : ∀ k, (Instr.lookup 42 (.map (some m)) (.int .i64 x.f2) false).run Try.prog (W.drewN k) = .ok (.int .i64 (whV l g x.f2)) (W.drewN k) := fun k => by
                have := look (hY.out.mp.keep (w' := W.drewN k) rfl) x.f2
                rwa [hlk.out] at this
              clear hgd
              rcases k3 with k3 | k3
              · have e1 : (x.f1.f0 != 39) = false := by rw [k3]; rfl
                replace k3 := Aside0.mk k3
                go_upto_region 8 with (fail)
                go_quiet (fail)
                rw [← hdd.out]
                clear hw1 hw2 hlkm hca p1 p6 y0 y2
                replace y1 : (W.drewN nq).cell? ⟨p, 1, none⟩ = some (.slice (some ⟨gl, 0, none⟩) l.length l.length) := y1
                replace hcl : (W.drewN nq).cell? ⟨gl, i, none⟩ = some (.bool false) := hcl
                replace hfl : (W.drewN nq).frozen? ⟨gl, i, none⟩ = false := hfl
                replace hY := Aside0.mk (hY.out.below (pw_below_drewN (Below.refl W.heap.size W) nq))
                generalize W.drewN nq = W8 at *
                clear hdd
                generalize dV l g i = d at *
                have hY2 := Aside0.mk (hY.out.setL i true)
                by_cases d1 : d < -32768
                · have f1 : farV l g i = true := by rw [hfv.out]; simp only [Bool.not_false, Bool.true_and, Bool.or_eq_true, decide_eq_true_eq]; omega
                  rw [f1] at htv hgr
                  rw [if_pos rfl] at hgr
                  replace f1 := Aside0.mk f1
                  go_wp2_with fail
                  go_roundw
                  case rel => exact ⟨i + 1, by omega, by go_num, by rw [htv.out]; rfl, ⟨by rw [hgr.out]; exact hY2.out⟩⟩
                  case measure => simp [intOf]; omega
                · have d1' : decide (d < -32768) = false := decide_eq_false d1
                  by_cases d2 : 32768 ≤ d
                  · have f1 : farV l g i = true := by rw [hfv.out]; simp only [Bool.not_false, Bool.true_and, Bool.or_eq_true, decide_eq_true_eq]; omega
                    rw [f1] at htv hgr
                    rw [if_pos rfl] at hgr
                    replace f1 := Aside0.mk f1
                    replace d1 := Aside0.mk d1
                    go_wp2_with fail
                    go_roundw
                    case rel => exact ⟨i + 1, by omega, by go_num, by rw [htv.out]; rfl, ⟨by rw [hgr.out]; exact hY2.out⟩⟩
                    case measure => simp [intOf]; omega
                  · have f1 : farV l g i = false := by rw [hfv.out]; simp only [Bool.not_false, Bool.true_and, Bool.or_eq_false_iff, decide_eq_false_iff_not]; omega
                    have d2' : decide (32768 ≤ d) = false := decide_eq_false d2
                    rw [f1] at htv hgr
                    replace f1 := Aside0.mk f1
                    replace d1 := Aside0.mk d1
                    replace d2 := Aside0.mk d2
                    clear hY2
                    go_wp2_with fail
                    go_roundw
                    case rel => exact ⟨i + 1, by omega, by go_num, by rw [htv.out]; rfl, ⟨by rw [hgr.out]; exact hY.out⟩⟩
                    case measure => simp [intOf]; omega
              · have e1 : (x.f1.f0 != 39) = true := by rw [k3]; rfl
                have e2 : (x.f1.f0 != 40) = false := by rw [k3]; rfl
                replace k3 := Aside0.mk k3
                go_upto_region 8 with (fail)
                go_quiet (fail)
                rw [← hdd.out]
                clear hw1 hw2 hlkm hca p1 p6 y0 y2
                replace y1 : (W.drewN nq).cell? ⟨p, 1, none⟩ = some (.slice (some ⟨gl, 0, none⟩) l.length l.length) := y1
                replace hcl : (W.drewN nq).cell? ⟨gl, i, none⟩ = some (.bool false) := hcl
                replace hfl : (W.drewN nq).frozen? ⟨gl, i, none⟩ = false := hfl
                replace hY := Aside0.mk (hY.out.below (pw_below_drewN (Below.refl W.heap.size W) nq))
                generalize W.drewN nq = W8 at *
                clear hdd
                generalize dV l g i = d at *
                have hY2 := Aside0.mk (hY.out.setL i true)
                by_cases d1 : d < -32768
                · have f1 : farV l g i = true := by rw [hfv.out]; simp only [Bool.not_false, Bool.true_and, Bool.or_eq_true, decide_eq_true_eq]; omega
                  rw [f1] at htv hgr
                  rw [if_pos rfl] at hgr
                  replace f1 := Aside0.mk f1
                  go_wp2_with fail
                  go_roundw
                  case rel => exact ⟨i + 1, by omega, by go_num, by rw [htv.out]; rfl, ⟨by rw [hgr.out]; exact hY2.out⟩⟩
                  case measure => simp [intOf]; omega
                · have d1' : decide (d < -32768) = false := decide_eq_false d1
                  by_cases d2 : 32768 ≤ d
                  · have f1 : farV l g i = true := by rw [hfv.out]; simp only [Bool.not_false, Bool.true_and, Bool.or_eq_true, decide_eq_true_eq]; omega
                    rw [f1] at htv hgr
                    rw [if_pos rfl] at hgr
                    replace f1 := Aside0.mk f1
                    replace d1 := Aside0.mk d1
                    go_wp2_with fail
                    go_roundw
                    case rel => exact ⟨i + 1, by omega, by go_num, by rw [htv.out]; rfl, ⟨by rw [hgr.out]; exact hY2.out⟩⟩
                    case measure => simp [intOf]; omega
                  · have f1 : farV l g i = false := by rw [hfv.out]; simp only [Bool.not_false, Bool.true_and, Bool.or_eq_false_iff, decide_eq_false_iff_not]; omega
                    have d2' : decide (32768 ≤ d) = false := decide_eq_false d2
                    rw [f1] at htv hgr
                    replace f1 := Aside0.mk f1
                    replace d1 := Aside0.mk d1
                    replace d2 := Aside0.mk d2
                    clear hY2
                    go_wp2_with fail
                    go_roundw
                    case rel => exact ⟨i + 1, by omega, by go_num, by rw [htv.out]; rfl, ⟨by rw [hgr.out]; exact hY.out⟩⟩
                    case measure => simp [intOf]; omega
            · have k39 : Aside0 ((x.f1.f0 == 39 || x.f1.f0 == 40) = false) := ⟨by rw [Bool.or_eq_false_iff]; exact ⟨beq_eq_false_iff_ne.2 fun h => k3 (.inl h), beq_eq_false_iff_ne.2 fun h => k3 (.inr h)⟩⟩
              have e1 : (x.f1.f0 != 39) = true := by simpa using fun h => k3 (.inl h)
              have e2 : (x.f1.f0 != 40) = true := by simpa using fun h => k3 (.inr h)
              have f0 : farV l g i = false := by rw [hfv.out, k39.out]; simp
              rw [f0] at htv hgr
              replace f0 := Aside0.mk f0
              replace k3 := Aside0.mk k3
              go_wp2_with fail
              go_roundw
              case rel => exact ⟨i + 1, by omega, by go_num, by rw [htv.out]; rfl, ⟨by rw [hgr.out]; exact hY.out⟩⟩
              case measure => simp [intOf]; omega
          · have f0 : farV l g i = false := by rw [hfv.out]; simp
            rw [f0] at htv hgr
            replace f0 := Aside0.mk f0
            go_wp2_with fail
            go_roundw
            case rel => exact ⟨i + 1, by omega, by go_num, by rw [htv.out]; rfl, ⟨by rw [hgr.out]; exact hY.out⟩⟩
            case measure => simp [intOf]; omega
      · obtain rfl : i = l.length := by omega
        have hk1 : Aside0 (1 ≤ kg) := ⟨by have := hnl.out; omega⟩
        have hgn := Aside0.mk (gr_nl l g hgl.out l.length (Nat.le_refl _))
        have hst2 : Aside0 (lay l kg g = if tv l g l.length = true then lay l (kg - 1) (gr l g l.length) else g) := ⟨by obtain ⟨k, rfl⟩ : ∃ k, kg = k + 1 := ⟨kg - 1, by have := hk1.out; omega⟩; rfl⟩
        cases htv : tv l g l.length
        · have hgg := Aside0.mk (gr_none l g l.length htv)
          have hse : Aside0 (settle l = g) := ⟨by rw [hst.out, hst2.out, htv]; rfl⟩
          rw [hgg.out] at hY
          replace htv := Aside0.mk htv
          go_wp2_with fail
          go_ret
          refine ⟨p, ga, gl, m, es1, rfl, ?_, ?_, ⟨hY.out.bel⟩⟩
          · rw [hse.out]; exact hY
          · rw [hse.out]; exact hes
        · have hsn : Aside0 (settle l = lay l (kg - 1) (gr l g l.length)) := ⟨by rw [hst.out, hst2.out, htv]; rfl⟩
          have hnn : Aside0 (nl (gr l g l.length) < kg - 1) := ⟨by have := hgn.out.2 htv; have := hnl.out; omega⟩
          have hdn := Aside0.mk (dom_of l g es1 hes.out)
          replace htv := Aside0.mk htv
          go_wp2_with fail
          go_roundg (kg - 1)
          case measure => have := hk1.out; omega
          case rel => exact ⟨_, _, _, _, rfl, rfl, hY, hsn, hnn, hdn⟩
end Go.Proofs.Ytdhmnjoceeolcaa.Asm
end
section
namespace Go.Proofs.Ytdhmnjoceeolcaa.Asm
open Go.RowKit Go.Proofs.YtdhmnjoceeolcaaW.PrintWords Go.Proofs.YtdhmnjoceeolcaaW.PrintLast Go.Proofs.YtdhmnjoceeolcaaW.PrintMore Go.Proofs.Ytdhmnjoceeolcaa.GF
set_option linter.unusedVariables false
set_option linter.unusedSimpArgs false
def insL (x : S24) : List Value := [.int .i64 x.f0, .int .i64 x.f1, .int .i64 x.f2, .int .i64 x.f3, .int .i32 x.f4]
def insA (ws : List S24) : Array Value := (ws.flatMap insL).toArray
theorem ins_at (q : Nat) (v : Value) : ∀ (ws : List S24) (j : Nat), j < ws.length → (insL (ws.getD j z24))[q]? = some v → (ws.flatMap insL)[j * 5 + q]? = some v
  | [], j, h, _ => by simp at h
  | x :: ws, 0, _, h => by
    have hq : q < 5 := by have := (List.getElem?_eq_some_iff.1 h).1; simpa [insL] using this
    rw [List.flatMap_cons, List.getElem?_append_left (by simp [insL]; omega), Nat.zero_mul, Nat.zero_add]
    exact h
  | x :: ws, j + 1, h, h2 => by
    rw [List.flatMap_cons, List.getElem?_append_right (by simp [insL]; omega), show (j + 1) * 5 + q - (insL x).length = j * 5 + q by simp [insL]; omega]
    exact ins_at q v ws j (by simpa using h) h2
theorem ins_cell {w : World} {b : Nat} {ws : List S24} (h : w.heap[b]? = some (.cells (insA ws) 24 (0, 0))) (j q : Nat) (hj : j < ws.length) (v : Value) (hv : (insL (ws.getD j z24))[q]? = some v) : w.cell? ⟨b, j * 5 + q, none⟩ = some v := by
  rw [blk_cell h]
  exact (by simpa [insA] using ins_at q v ws j hj hv)
/-- A line's instructions. -/
def wordsV (l : List S37) (g : List Bool) (x : S37) (i : Nat) : List S24 :=
  if x.f2 = 0 then [x.f1] else
  if g.getD i false = false then [⟨x.f1.f0, x.f1.f1, x.f1.f2, x.f1.f3, wrap32 (wrap32 (whV l g x.f2 - atV l g i) - 1)⟩]
  else [⟨wrap64 (79 - x.f1.f0), x.f1.f1, x.f1.f2, x.f1.f3, 1⟩, ⟨41, 0, 0, 0, wrap32 (wrap32 (whV l g x.f2 - atV l g i) - 2)⟩]
def RetW (ws : List S24) (w : World) (e : Ending) (w' : World) : Prop :=
  ∃ b, e = .returned (.slice (some ⟨b, 0, none⟩) ws.length ws.length) ∧ Aside0 (w'.heap[b]? = some (.cells (insA ws) 24 (0, 0))) ∧ Aside0 (Below w.heap.size w w')
abbrev ib (x : S24) : Obj := .cells #[.int .i64 x.f0, .int .i64 x.f1, .int .i64 x.f2, .int .i64 x.f3, .int .i32 x.f4] 24 (0, 0)
set_option maxHeartbeats 16000000 in
set_option maxRecDepth 100000 in
theorem words_calls {w wr : World} {l : List S37} (hlen : l.length ≤ 262144) {p ga gl m : Nat} {g : List Bool} {es : Mm} (hY : Aside0 (Ly w wr l.length p ga gl m (ats l g) g es)) (hes : Aside0 (∀ k, get es k = whO l g l.length k)) (x : S37) (i : Nat) (hi : i < l.length) :
    Calls Try.prog 18 #[PP p, .agg #[.int .i64 x.f0, .int .i64 x.f1.f0, .int .i64 x.f1.f1, .int .i64 x.f1.f2, .int .i64 x.f1.f3, .int .i32 x.f1.f4, .int .i64 x.f2], .int .i64 i] wr (RetW (wordsV l g x i) wr) := by
  have hX : Aside0 (((wr.alloc (lb x)).alloc (ib x.f1)).heap[wr.heap.size]? = some (lb x)) := ⟨blk_alloc (blk_new wr (lb x)) _⟩
  have hZ : Aside0 (((wr.alloc (lb x)).alloc (ib x.f1)).heap[wr.heap.size + 1]? = some (ib x.f1)) := ⟨by have := blk_new (wr.alloc (lb x)) (ib x.f1); simpa using this⟩
  have hB : Aside0 (Below wr.heap.size wr ((wr.alloc (lb x)).alloc (ib x.f1))) := ⟨below_alloc (below_alloc (Below.refl _ _) _) _⟩
  have hr := Aside0.mk (atV_range l g i)
  have hwl : Aside0 (0 ≤ whV l g x.f2 ∧ whV l g x.f2 ≤ 2 * l.length) := ⟨whO_range l g x.f2 l.length⟩
  have hlk : Aside0 ((get es x.f2).getD 0 = whV l g x.f2) := ⟨by rw [hes.out]; rfl⟩
  have q0 : (0 : Int) ≤ (i : Int) := by omega
  have q1 : (i : Int) < (l.length : Int) := by omega
  have q2 : (i : Int) < (l.length : Int) + 1 := by omega
  have ap1 := add_plain ga i
  have ap2 := add_plain gl i
  replace hY := Aside0.mk (hY.out.below hB.out)
  go_enter Try.func18, Try.ntmps18
  go_upto_region 2 with (fail)
  generalize (wr.alloc (lb x)).alloc (ib x.f1) = W at *
  have p6 := (blk_cell hX.out 6).trans (show _ = some (.int .i64 x.f2) from rfl)
  have z0 := (blk_cell hZ.out 0).trans (show _ = some (.int .i64 x.f1.f0) from rfl)
  have z1 := (blk_cell hZ.out 1).trans (show _ = some (.int .i64 x.f1.f1) from rfl)
  have z2 := (blk_cell hZ.out 2).trans (show _ = some (.int .i64 x.f1.f2) from rfl)
  have z3 := (blk_cell hZ.out 3).trans (show _ = some (.int .i64 x.f1.f3) from rfl)
  have z4 := (blk_cell hZ.out 4).trans (show _ = some (.int .i32 x.f1.f4) from rfl)
  by_cases k1 : x.f2 = 0
  · have hws : wordsV l g x i = [x.f1] := by unfold wordsV; rw [if_pos k1]
    have e0 : (x.f2 == 0) = true := by simpa using k1
    replace hws := Aside0.mk hws
    replace k1 := Aside0.mk k1
    have hE := Aside0.mk (blk_new W (ib x.f1))
    go_wp2_with fail
    go_ret
    exact ⟨W.heap.size, by rw [hws.out]; rfl, by rw [hws.out]; exact hE, ⟨below_alloc hB.out _⟩⟩
  · have k1' : (x.f2 == 0) = false := beq_eq_false_iff_ne.2 k1
    have y0 := (blk_cell hY.out.bp 0).trans (show _ = some (.slice (some ⟨ga, 0, none⟩) (l.length + 1) (l.length + 1)) from rfl)
    have y1 := (blk_cell hY.out.bp 1).trans (show _ = some (.slice (some ⟨gl, 0, none⟩) l.length l.length) from rfl)
    have y2 := (blk_cell hY.out.bp 2).trans (show _ = some (.map (some m)) from rfl)
    have hcl := bs_cell hY.out.bl i (by rw [hY.out.lg]; exact hi)
    have hca := is_cell hY.out.ba i (by rw [hY.out.la]; omega)
    rw [ats_at l g i (by omega)] at hca
    have hlkm : ∀ k, (Instr.lookup 42 (.map (some m)) (.int .i64 x.f2) false).run Try.prog (W.drewN k) = .ok (.int .i64 (whV l g x.f2)) (W.drewN k) := fun k => by
      have := look (hY.out.mp.keep (w' := W.drewN k) rfl) x.f2
      rwa [hlk.out] at this
    have hw1 : IntKind.i64.wrap (whV l g x.f2 - atV l g i) = whV l g x.f2 - atV l g i := IntWalk.i64_in _ (by have := hwl.out; have := hr.out; omega)
    have hyes : g.getD i false = false → wordsV l g x i = [⟨x.f1.f0, x.f1.f1, x.f1.f2, x.f1.f3, wrap32 (wrap32 (whV l g x.f2 - atV l g i) - 1)⟩] := fun h => by unfold wordsV; rw [if_neg k1, if_pos h]
    have hno : g.getD i false = true → wordsV l g x i = [⟨wrap64 (79 - x.f1.f0), x.f1.f1, x.f1.f2, x.f1.f3, 1⟩, ⟨41, 0, 0, 0, wrap32 (wrap32 (whV l g x.f2 - atV l g i) - 2)⟩] := fun h => by unfold wordsV; rw [if_neg k1, if_neg (by rw [h]; decide)]
    replace k1 := Aside0.mk k1
    generalize g.getD i false = bi at *
    go_upto_region 4 with (fail)
    go_quiet (fail)
    clear hw1 hlkm hca y0 y2
    obtain ⟨d, hd⟩ : ∃ d, Aside0 (wrap32 (whV l g x.f2 - atV l g i) = d) := ⟨_, ⟨rfl⟩⟩
    rw [hd.out] at hyes hno ⊢
    replace y1 : (W.drewN nq).cell? ⟨p, 1, none⟩ = some (.slice (some ⟨gl, 0, none⟩) l.length l.length) := y1
    replace hcl : (W.drewN nq).cell? ⟨gl, i, none⟩ = some (.bool bi) := hcl
    replace hZ : Aside0 ((W.drewN nq).heap[wr.heap.size + 1]? = _) := ⟨hZ.out⟩
    replace hB : Aside0 (Below wr.heap.size wr (W.drewN nq)) := ⟨pw_below_drewN hB.out nq⟩
    generalize W.drewN nq = W8 at *
    clear hX hY p6 z0 z1 z2 z3 z4
    cases bi
    · have hws := Aside0.mk (hyes rfl)
      clear hyes hno
      have z4 := (blk_cell hZ.out 4).trans (show _ = some (.int .i32 x.f1.f4) from rfl)
      have f4 := blk_frozen hZ.out 4
      have hZ2 := Aside0.mk (blk_put hZ.out 4 (.int .i32 (wrap32 (d - 1))) rfl)
      have hB2 : Aside0 (Below wr.heap.size wr (W8.setCell ⟨wr.heap.size + 1, 4, none⟩ (.int .i32 (wrap32 (d - 1))))) := ⟨below_set hB.out (by omega)⟩
      go_upto_region 7 with (fail)
      generalize hv : wrap32 (d - 1) = v at *
      generalize W8.setCell ⟨wr.heap.size + 1, 4, none⟩ (.int .i32 v) = W9 at *
      clear z4 f4 hcl y1 hZ hB
      have z0 := (blk_cell hZ2.out 0).trans (show _ = some (.int .i64 x.f1.f0) from rfl)
      have z1 := (blk_cell hZ2.out 1).trans (show _ = some (.int .i64 x.f1.f1) from rfl)
      have z2 := (blk_cell hZ2.out 2).trans (show _ = some (.int .i64 x.f1.f2) from rfl)
      have z3 := (blk_cell hZ2.out 3).trans (show _ = some (.int .i64 x.f1.f3) from rfl)
      have z4 := (blk_cell hZ2.out 4).trans (show _ = some (.int .i32 v) from rfl)
      have hE := Aside0.mk (blk_new W9 (ib ⟨x.f1.f0, x.f1.f1, x.f1.f2, x.f1.f3, v⟩))
      replace hv := Aside0.mk hv
      go_wp2_with fail
      go_ret
      exact ⟨W9.heap.size, by rw [hws.out]; rfl, by rw [hws.out]; exact hE, ⟨below_alloc hB2.out _⟩⟩
    · have hws := Aside0.mk (hno rfl)
      clear hyes hno
      have z0 := (blk_cell hZ.out 0).trans (show _ = some (.int .i64 x.f1.f0) from rfl)
      have f0 := blk_frozen hZ.out 0
      have hZ2 := Aside0.mk (blk_put hZ.out 0 (.int .i64 (wrap64 (79 - x.f1.f0))) rfl)
      have hB2 : Aside0 (Below wr.heap.size wr (W8.setCell ⟨wr.heap.size + 1, 0, none⟩ (.int .i64 (wrap64 (79 - x.f1.f0))))) := ⟨below_set hB.out (by omega)⟩
      go_upto_region 9 with (fail)
      generalize hv : wrap64 (79 - x.f1.f0) = v at *
      generalize W8.setCell ⟨wr.heap.size + 1, 0, none⟩ (.int .i64 v) = W9 at *
      clear z0 f0 hcl y1 hZ hB
      have z4 := (blk_cell hZ2.out 4).trans (show _ = some (.int .i32 x.f1.f4) from rfl)
      have f4 := blk_frozen hZ2.out 4
      have hZ3 := Aside0.mk (blk_put hZ2.out 4 (.int .i32 1) rfl)
      have hB3 : Aside0 (Below wr.heap.size wr (W9.setCell ⟨wr.heap.size + 1, 4, none⟩ (.int .i32 1))) := ⟨below_set hB2.out (by omega)⟩
      go_upto_region 10 with (fail)
      generalize W9.setCell ⟨wr.heap.size + 1, 4, none⟩ (.int .i32 1) = Wa at *
      clear z4 f4 hZ2 hB2
      have z0 := (blk_cell hZ3.out 0).trans (show _ = some (.int .i64 v) from rfl)
      have z1 := (blk_cell hZ3.out 1).trans (show _ = some (.int .i64 x.f1.f1) from rfl)
      have z2 := (blk_cell hZ3.out 2).trans (show _ = some (.int .i64 x.f1.f2) from rfl)
      have z3 := (blk_cell hZ3.out 3).trans (show _ = some (.int .i64 x.f1.f3) from rfl)
      have z4 := (blk_cell hZ3.out 4).trans (show _ = some (.int .i32 1) from rfl)
      obtain ⟨v2, hv2⟩ : ∃ v2, Aside0 (wrap32 (d - 2) = v2) := ⟨_, ⟨rfl⟩⟩
      have hE := Aside0.mk (blk_new Wa (.cells #[.int .i64 v, .int .i64 x.f1.f1, .int .i64 x.f1.f2, .int .i64 x.f1.f3, .int .i32 1, .int .i64 41, .int .i64 0, .int .i64 0, .int .i64 0, .int .i32 (wrap32 (d - 2))] 24))
      replace hv := Aside0.mk hv
      go_wp2_with fail
      go_ret
      exact ⟨Wa.heap.size, by rw [hws.out]; rfl, by rw [hws.out]; exact hE, ⟨below_alloc hB3.out _⟩⟩
end Go.Proofs.Ytdhmnjoceeolcaa.Asm
end
section
namespace Go.Proofs.Ytdhmnjoceeolcaa.Asm
open Go.RowKit Go.Proofs.YtdhmnjoceeolcaaW.PrintWords Go.Proofs.YtdhmnjoceeolcaaW.PrintLast Go.Proofs.YtdhmnjoceeolcaaW.PrintMore Go.Proofs.Ytdhmnjoceeolcaa.GF
set_option linter.unusedVariables false
set_option linter.unusedSimpArgs false
/-- An instruction's word. -/
def encV (x : S24) : Int := ((isa_Encode.f 7 x.f0 x.f1 x.f2 x.f3 x.f4).getD (0, 1)).1
def encE (x : S24) : Int := ((isa_Encode.f 7 x.f0 x.f1 x.f2 x.f3 x.f4).getD (0, 1)).2
theorem enc_some (x : S24) : isa_Encode.f 7 x.f0 x.f1 x.f2 x.f3 x.f4 = some (encV x, encE x) := by
  have : ∃ r, isa_Encode.f 7 x.f0 x.f1 x.f2 x.f3 x.f4 = some r := by
    obtain ⟨p, sd, sa, sb, bits, sign, is, lo, hi, h⟩ := FactsDec.cl x.f0
    by_cases hok : FactsDec.ok x.f1 x.f2 x.f3 x.f4 sd sa sb is lo hi = true
    · exact ⟨_, FactsDec.isaEnc 0 _ _ _ _ h hok⟩
    · exact ⟨_, FactsDec.isaEncNo 0 _ _ _ _ h hok⟩
  obtain ⟨r, hr⟩ := this
  unfold encV encE
  rw [hr]; rfl
def byt (w : Int) : List Int := [w % 256, (w / 256) % 256, (w / 65536) % 256, (w / 16777216) % 256]
/-- What the first lines are as_ bytes. -/
def outV (l : List S37) (g : List Bool) : Nat → List Int
  | 0 => []
  | i + 1 => outV l g i ++ (if 0 < (l.getD i z37).f0 then [] else (wordsV l g (l.getD i z37) i).flatMap fun x => byt (encV x))
theorem wordsV_len (l : List S37) (g : List Bool) (x : S37) (i : Nat) : (wordsV l g x i).length ≤ 2 := by unfold wordsV; split; simp; split <;> simp
theorem byt_len (ws : List S24) : (ws.flatMap fun x => byt (encV x)).length = 4 * ws.length := by
  induction ws with
  | nil => rfl
  | cons x ws ih => rw [List.flatMap_cons, List.length_append, ih]; simp [byt]; omega
theorem outV_len (l : List S37) (g : List Bool) : ∀ i, (outV l g i).length ≤ 8 * i
  | 0 => Nat.le_refl _
  | i + 1 => by
    have := outV_len l g i
    unfold outV
    rw [List.length_append]
    split
    · simp; omega
    · rw [byt_len]; have := wordsV_len l g (l.getD i z37) i; omega
/-- Lines as_ code. -/
def asmV (l : List S37) : ByteArray × Int :=
  if checkV l = 0 then (if 1048576 < 4 * atV l (settle l) l.length then (⟨#[]⟩, 3) else (strOfNums (outV l (settle l) l.length), 0)) else (⟨#[]⟩, checkV l)
theorem check_len (l : List S37) (h : checkV l = 0) : l.length ≤ 262144 := by
  unfold checkV at h
  by_cases h2 : 262144 < l.length
  · rw [if_pos h2] at h; exact absurd h (by decide)
  · omega
theorem lit4 (W : World) (b0 b1 b2 b3 : Int) : (Kd.int .u8).C (W.alloc (.cells #[.int .u8 b0, .int .u8 b1, .int .u8 b2, .int .u8 b3] 5)) (some ⟨W.heap.size, 0, none⟩) 4 [b0, b1, b2, b3] := by
  refine Kd.C_of_reads (d := (0 : Int)) ⟨rfl, by omega, fun _ => ⟨⟨W.heap.size, 0, none⟩, rfl, fun j hj => ?_⟩⟩
  rw [add_plain, blk_cell (blk_new W _)]
  match j, hj with
  | 0, _ => rfl
  | 1, _ => rfl
  | 2, _ => rfl
  | 3, _ => rfl
  | j + 4, h => exact absurd h (by simp)
set_option maxHeartbeats 32000000 in
set_option maxRecDepth 100000 in
theorem assemble_calls {w : World} {A : Option Addr} {l : List S37} {c : Nat} (hL : Aside0 (Kd.C k37 w A l.length l)) :
    Calls Try.prog 8 #[.slice A l.length c] w fun e w' => e = .returned (.tuple #[.string (asmV l).1, .int .i64 (asmV l).2]) ∧ Below w.heap.size w w' := by
  by_cases hc : checkV l = 0
  · have hlen := check_len l hc
    have hck : Calls Try.prog 11 #[.slice A l.length c] w fun e w' => e = .returned (.int .i64 0) ∧ Below w.heap.size w w' := (check_calls hL).mono fun e w' h => by rw [hc] at h; exact h
    have hlong : 1048576 < 4 * atV l (settle l) l.length → Aside0 (asmV l = (⟨#[]⟩, 3)) := fun h => ⟨by unfold asmV; rw [if_pos hc, if_pos h]⟩
    have hshort : 4 * atV l (settle l) l.length ≤ 1048576 → Aside0 (asmV l = (strOfNums (outV l (settle l) l.length), 0)) := fun h => ⟨by unfold asmV; rw [if_pos hc, if_neg (by omega)]⟩
    have hr := atV_range l (settle l) l.length
    replace hc := Aside0.mk hc
    go_enter Try.func8, Try.ntmps8
    go_upto_region 5 with (first | (go_at_call 11; (with_reducible refine hck.mono ?_); rintro e w1 ⟨rfl, hb1⟩; replace hb1 := Aside0.mk hb1) | (go_at_call 17; (with_reducible refine (laid_calls ⟨Kd.C_below hL.out hb1.out⟩ hlen).mono ?_); rintro e w5 ⟨p, ga, gl, m, es, rfl, hY, hes, hb5⟩))
    generalize settle l = g at *
    have y0 := (blk_cell hY.out.bp 0).trans (show _ = some (.slice (some ⟨ga, 0, none⟩) (l.length + 1) (l.length + 1)) from rfl)
    have hca := is_cell hY.out.ba l.length (by rw [hY.out.la]; omega)
    rw [ats_at l g l.length (by omega)] at hca
    have ap1 := add_plain ga l.length
    have q0 : (0 : Int) ≤ (l.length : Int) := by omega
    have q1 : (l.length : Int) < (l.length : Int) + 1 := by omega
    have hw4 : IntKind.i64.wrap (4 * atV l g l.length) = 4 * atV l g l.length := IntWalk.i64_in _ (by omega)
    by_cases hlg : 1048576 < 4 * atV l g l.length
    · have hv := hlong hlg
      clear hlong hshort
      have hlg' : decide (1048576 < 4 * atV l g l.length) = true := decide_eq_true hlg
      replace hlg := Aside0.mk hlg
      replace hr := Aside0.mk hr
      go_wp2_with fail
      go_ret2
      exact ⟨by rw [hv.out]; rfl, below_step hb1.out hb5.out⟩
    · have hv := hshort (by omega)
      clear hlong hshort
      have hlg' : decide (1048576 < 4 * atV l g l.length) = false := decide_eq_false hlg
      replace hlg := Aside0.mk hlg
      replace hr := Aside0.mk hr
      go_upto_region 8 with (fail)
      clear hck hw4 hca ap1 hlg' y0 q0 q1
      have hB5 := Aside0.mk (below_step hb1.out hb5.out)
      have hL5 := Aside0.mk (Kd.C_below hL.out hB5.out)
      have hR0 : Aside0 (Kd.R (Kd.int .u8) 5 w5 w5.heap.size (fun _ => True) (.slice none 0 0) []) := ⟨Kd.R_nil _ _ _ _ _⟩
      have hE0 : Aside0 (Below w5.heap.size w5 w5) := ⟨Below.refl _ _⟩
      have hu5 := info5
      clear hb1 hb5
      go_wp2_with fail
      go_loopw [6, 32] (fun u6 u32 wr => ∃ i : Nat, i ≤ l.length ∧ u32 = .int .i64 i ∧ Aside0 (Kd.R (Kd.int .u8) 5 wr w5.heap.size (fun _ => True) u6 (outV l g i)) ∧ Aside0 (Below w5.heap.size w5 wr)) (fun _ u _ => l.length - (intOf u).toNat)
      case atStart => exact ⟨0, Nat.zero_le _, rfl, hR0, hE0⟩
      case round =>
        clear hR0 hE0
        obtain ⟨i, hi, rfl, hR, hb⟩ := hrel
        by_cases hlt : i < l.length
        · obtain ⟨ad, ea, c0, c1, c2, c3, c4, c5, c6⟩ := at_T37 (Kd.C_below hL5.out hb.out) (i : Int) (by omega) (by omega)
          subst ea
          simp only [Int.toNat_natCast, rd_L] at c0 c1 c2 c3 c4 c5 c6
          have hou : Aside0 (outV l g (i + 1) = outV l g i ++ (if 0 < (l.getD i z37).f0 then [] else (wordsV l g (l.getD i z37) i).flatMap fun x => byt (encV x))) := ⟨rfl⟩
          have hol := Aside0.mk (outV_len l g i)
          have hX := Aside0.mk (blk_new wr (lb (l.getD i z37)))
          replace hR := Aside0.mk (Kd.R_alloc hR.out (lb (l.getD i z37)))
          replace hb := Aside0.mk (below_alloc hb.out (lb (l.getD i z37)))
          have q0 : (0 : Int) ≤ (i : Int) := by omega
          have q1 : (i : Int) < (l.length : Int) := by omega
          have hwc := fun (W : World) (h : Below w5.heap.size w5 W) => Aside0.mk (words_calls hlen ⟨hY.out.below h⟩ hes (l.getD i z37) i hlt)
          have hwl := Aside0.mk (wordsV_len l g (l.getD i z37) i)
          generalize l.getD i z37 = x at *
          go_upto_region 11 with (fail)
          generalize wr.alloc (lb x) = W at *
          have p0 := (blk_cell hX.out 0).trans (show _ = some (.int .i64 x.f0) from rfl)
          by_cases hx0 : 0 < x.f0
          · rw [if_pos hx0, List.append_nil] at hou
            have hx' : decide (0 < x.f0) = true := decide_eq_true hx0
            replace hx0 := Aside0.mk hx0
            rw [← hou.out] at hR
            go_wp2_with fail
            go_roundw
            case rel => exact ⟨i + 1, by omega, by go_num, hR, hb⟩
            case measure => simp [intOf]; omega
          · rw [if_neg hx0] at hou
            have hx' : decide (0 < x.f0) = false := decide_eq_false hx0
            replace hx0 := Aside0.mk hx0
            have p1 := (blk_cell hX.out 1).trans (show _ = some (.int .i64 x.f1.f0) from rfl)
            have p2 := (blk_cell hX.out 2).trans (show _ = some (.int .i64 x.f1.f1) from rfl)
            have p3 := (blk_cell hX.out 3).trans (show _ = some (.int .i64 x.f1.f2) from rfl)
            have p4 := (blk_cell hX.out 4).trans (show _ = some (.int .i64 x.f1.f3) from rfl)
            have p5 := (blk_cell hX.out 5).trans (show _ = some (.int .i32 x.f1.f4) from rfl)
            have p6 := (blk_cell hX.out 6).trans (show _ = some (.int .i64 x.f2) from rfl)
            go_upto_region 13 with (go_at_call 18; (with_reducible refine (hwc _ hb.out).out.mono ?_); rintro e w6 ⟨bw, rfl, hbw, hb6⟩)
            replace hR := Aside0.mk (Kd.R_below hR.out hb6.out)
            replace hb := Aside0.mk (below_step hb.out hb6.out)
            clear hX p0 p1 p2 p3 p4 p5 p6 hb6 hwc
            generalize wordsV l g x i = ws at *
            have hRj : Aside0 (Kd.R (Kd.int .u8) 5 w6 w5.heap.size (fun _ => True) u6 (outV l g i ++ (ws.take 0).flatMap fun x => byt (encV x))) := ⟨by rw [List.take_zero, List.flatMap_nil, List.append_nil]; exact hR.out⟩
            generalize outV l g i = ob at *
            go_wp2_with fail
            clear hR
            go_loopw [6, 45] (fun u6 u45 wr => ∃ j : Nat, j ≤ ws.length ∧ u45 = .int .i64 j ∧ Aside0 (Kd.R (Kd.int .u8) 5 wr w5.heap.size (fun _ => True) u6 (ob ++ (ws.take j).flatMap fun x => byt (encV x))) ∧ Aside0 (wr.heap[bw]? = some (.cells (insA ws) 24 (0, 0))) ∧ Aside0 (Below w5.heap.size w5 wr)) (fun _ u _ => ws.length - (intOf u).toNat)
            case atStart => exact ⟨0, Nat.zero_le _, rfl, hRj, hbw, hb⟩
            case round =>
              clear hRj hbw hb
              obtain ⟨j, hj, rfl, hR, hbw, hb⟩ := hrel
              by_cases jlt : j < ws.length
              · have d0 : wr.cell? ⟨bw, j * 5, none⟩ = some (.int .i64 (ws.getD j z24).f0) := ins_cell hbw.out j 0 jlt _ rfl
                have d1 : wr.cell? ⟨bw, j * 5 + 1, none⟩ = some (.int .i64 (ws.getD j z24).f1) := ins_cell hbw.out j 1 jlt _ rfl
                have d2 : wr.cell? ⟨bw, j * 5 + 2, none⟩ = some (.int .i64 (ws.getD j z24).f2) := ins_cell hbw.out j 2 jlt _ rfl
                have d3 : wr.cell? ⟨bw, j * 5 + 3, none⟩ = some (.int .i64 (ws.getD j z24).f3) := ins_cell hbw.out j 3 jlt _ rfl
                have d4 : wr.cell? ⟨bw, j * 5 + 4, none⟩ = some (.int .i32 (ws.getD j z24).f4) := ins_cell hbw.out j 4 jlt _ rfl
                have ap5 := add_plain bw (j * 5)
                have htk := Aside0.mk (take_snoc ws j z24 jlt)
                have hen := Aside0.mk (enc_some (ws.getD j z24))
                have hbl : Aside0 ((ob ++ (ws.take j).flatMap fun x => byt (encV x)).length ≤ 8 * 262144 + 8) := ⟨by rw [List.length_append, byt_len, List.length_take]; have := hol.out; have := hwl.out; omega⟩
                have q4 : (j : Int) < 2 := by have := hwl.out; omega
                have q2 : (0 : Int) ≤ (j : Int) := by omega
                have q3 : (j : Int) < (ws.length : Int) := by omega
                have hZ := Aside0.mk (blk_new wr (ib (ws.getD j z24)))
                replace hR := Aside0.mk (Kd.R_alloc hR.out (ib (ws.getD j z24)))
                replace hb := Aside0.mk (below_alloc hb.out (ib (ws.getD j z24)))
                replace hbw := Aside0.mk (blk_alloc hbw.out (ib (ws.getD j z24)))
                generalize ws.getD j z24 = y at *
                go_upto_region 15 with (fail)
                generalize wr.alloc (ib y) = W2 at *
                clear d0 d1 d2 d3 d4
                have z0 := (blk_cell hZ.out 0).trans (show _ = some (.int .i64 y.f0) from rfl)
                have z1 := (blk_cell hZ.out 1).trans (show _ = some (.int .i64 y.f1) from rfl)
                have z2 := (blk_cell hZ.out 2).trans (show _ = some (.int .i64 y.f2) from rfl)
                have z3 := (blk_cell hZ.out 3).trans (show _ = some (.int .i64 y.f3) from rfl)
                have z4 := (blk_cell hZ.out 4).trans (show _ = some (.int .i32 y.f4) from rfl)
                go_upto_region 16 with (go_at_call 19; (with_reducible refine (isa_Encode.calls 7 _ _ _ _ _ (encV y) (encE y) _ hen.out).mono ?_); rintro e w7 ⟨rfl, hb7⟩; replace hb7 := Aside0.mk hb7)
                clear z0 z1 z2 z3 z4 hZ
                replace hR := Aside0.mk (Kd.R_below hR.out hb7.out)
                replace hb := Aside0.mk (below_step hb.out hb7.out)
                replace hbw := Aside0.mk (blk_below hbw.out hb7.out)
                have hadd : Aside0 ((ws.take (j + 1)).flatMap (fun x => byt (encV x)) = (ws.take j).flatMap (fun x => byt (encV x)) ++ byt (encV y)) := ⟨by rw [htk.out, List.flatMap_append]; simp⟩
                generalize (ws.take j).flatMap (fun x => byt (encV x)) = oj at *
                generalize hoj2 : (ws.take (j + 1)).flatMap (fun x => byt (encV x)) = oj2 at *
                replace hoj2 := Aside0.mk hoj2
                generalize encV y = v at *
                have hlit := Aside0.mk (lit4 w7 (v % 256) (v / 256 % 256) (v / 65536 % 256) (v / 16777216 % 256))
                replace hR := Aside0.mk (Kd.R_alloc hR.out (.cells #[.int .u8 (v % 256), .int .u8 (v / 256 % 256), .int .u8 (v / 65536 % 256), .int .u8 (v / 16777216 % 256)] 5))
                replace hb := Aside0.mk (below_alloc hb.out (.cells #[.int .u8 (v % 256), .int .u8 (v / 256 % 256), .int .u8 (v / 65536 % 256), .int .u8 (v / 16777216 % 256)] 5))
                replace hbw := Aside0.mk (blk_alloc hbw.out (.cells #[.int .u8 (v % 256), .int .u8 (v / 256 % 256), .int .u8 (v / 65536 % 256), .int .u8 (v / 16777216 % 256)] 5))
                go_wp2_with (at_builtin; (refine Kd.R_append_rows (Kd.int .u8) (Rr := (Kd.int .u8).K (w7.alloc (.cells #[.int .u8 (v % 256), .int .u8 (v / 256 % 256), .int .u8 (v / 65536 % 256), .int .u8 (v / 16777216 % 256)] 5))) (w0 := w5) w5.heap.size rfl (.tmp 54) (.tmp 66) 51 5 (.int .u8 0) 1 rfl Try.underlying51 hu5 rfl (by decide) (by omega) u6 (ob ++ oj) (byt v) _ _ _ (fun _ => True) (fun _ => False) rfl rfl ?aO ?aR (fun _ _ h => h) (fun _ h => h.elim) ?aF ?aB ?aS ?aL ?_; (case aO => exact hR.out); (case aR => exact hlit.out); (case aF => exact fun _ _ => trivial); (case aB => exact hb.out); (case aS => exact below_size hb.out); (case aL => have := hbl.out; omega); intro v1 w9 ho hb9 hg hat; have hR2 := Aside0.mk ho; have hB2 := Aside0.mk hb9; have hbw2 := Aside0.mk (blk_grown hbw.out hg (Kd.R_ne hR.out hbw.out (by decide))); clear ho hb9 hg hat))
                rw [List.append_assoc, ← hadd.out] at hR2
                go_roundw
                case rel => exact ⟨j + 1, by omega, by go_num, by rw [hoj2.out]; exact hR2, hbw2, hB2⟩
                case measure => simp [intOf]; omega
              · obtain rfl : j = ws.length := by omega
                rw [List.take_length, ← hou.out] at hR
                go_wp2_with fail
                go_roundw
                case rel => exact ⟨i + 1, by omega, by go_num, hR, hb⟩
                case measure => simp [intOf]; omega
        · obtain rfl : i = l.length := by omega
          obtain ⟨Ab, cb, eb⟩ := Kd.R_slice hR.out
          subst eb
          have hcv := Kd.C_string (P := Try.prog) (src := 51) (dst := 9) Try.underlying51 Try.underlying5 Try.underlying9 ((Kd.R_reads' hR.out).2.2) (c := cb)
          go_wp2_with fail
          go_ret2
          exact ⟨by rw [hv.out]; rfl, below_step hB5.out hb.out⟩
  · have hv : Aside0 (asmV l = (⟨#[]⟩, checkV l)) := ⟨by unfold asmV; rw [if_neg hc]⟩
    have hck := check_calls (c := c) hL
    have hne : (checkV l != 0) = true := by simpa using hc
    generalize hcv : checkV l = cv at *
    replace hc := Aside0.mk hc
    replace hcv := Aside0.mk hcv
    go_enter Try.func8, Try.ntmps8
    go_wp2_with (go_at_call 11; (with_reducible refine hck.mono ?_); rintro e w1 ⟨rfl, hb1⟩; replace hb1 := Aside0.mk hb1)
    go_ret2
    exact ⟨by rw [hv.out]; rfl, hb1.out⟩
end Go.Proofs.Ytdhmnjoceeolcaa.Asm
end
section
namespace Go.Proofs.Ytdhmnjoceeolcaa.GF
open Go.RowKit Go.Proofs.YtdhmnjoceeolcaaW.PrintWords Go.Proofs.YtdhmnjoceeolcaaW.PrintLast Go.Proofs.YtdhmnjoceeolcaaW.PrintMore
attribute [local go_sem] max2_int min2_int max_two min_two max_three min_three max_four min_four   -- for this text's walks alone
set_option linter.unusedVariables false
set_option linter.unusedSimpArgs false
attribute [local go_sem high] eqA24
def asm_Assemble.f (l0 : List (S37)) : Option (ByteArray × Int) := some (Asm.asmV l0)
theorem asm_Assemble.calls (A0 : Option Addr) (c0 : Nat) (l0 : List (S37)) (r1 : ByteArray) (r2 : Int) (w : World) (hr0 : Kd.C k37 w A0 l0.length l0) (hc0 : l0.length ≤ c0) (h : asm_Assemble.f l0 = some (r1, r2)) :
    Calls Try.prog 8 #[.slice A0 l0.length c0] w fun e w' => e = .returned (.tuple #[.string r1, .int .i64 r2]) ∧ Below w.heap.size w w' := by
  obtain ⟨h1, h2⟩ : (Asm.asmV l0).1 = r1 ∧ (Asm.asmV l0).2 = r2 := by have := Option.some.inj h; rw [this]; exact ⟨rfl, rfl⟩
  subst h1
  subst h2
  exact Asm.assemble_calls ⟨hr0⟩
def cruciblelaw06_own.f (l0 : List (S37)) : Option ((List (S37))) := if ([] : List (S37)).length + l0.length < 2513169434916 then (some (([] : List (S37)) ++ l0)) else (none)
set_option maxHeartbeats 8000000 in
set_option maxRecDepth 100000 in
theorem cruciblelaw06_own.calls (A0 : Option Addr) (c0 : Nat) (l0 : List (S37)) (r : List (S37)) (w : World) (hr0 : Kd.C k37 w A0 l0.length l0) (hc0 : l0.length ≤ c0) (h : cruciblelaw06_own.f l0 = some r) :
    Calls Try.prog 9 #[.slice A0 l0.length c0] w fun e w' => ∃ v0_ : Value, e = .returned (v0_) ∧ Kd.R k37 37 w' w.heap.size (fun _ => True) v0_ r ∧ Below w.heap.size w w' := by
  have HR0 := Aside0.mk hr0
  have HC0 := Aside0.mk hc0
  clear hr0 hc0
  have HB := Aside0.mk (Below.refl w.heap.size w)
  have H : (if ([] : List (S37)).length + l0.length < 2513169434916 then (some (([] : List (S37)) ++ l0)) else (none)) = some r := h
  clear h
  by_cases c2 : ([] : List (S37)).length + l0.length < 2513169434916
  · rw [if_pos c2] at H
    have LMc2 := Aside0.mk c2
    clear c2
    obtain ⟨y125, hy125⟩ : ∃ y_ : List (S37), y_ = (([] : List (S37)) ++ l0) := ⟨_, rfl⟩
    replace H : (some y125) = some r := by first | (rw [hy125]; with_reducible exact H) | (have H2_ := (Option.bind_some _ _).symm.trans H; rw [hy125]; with_reducible exact H2_) | (have H2_ := (Option.bind_some _ _).symm.trans H; with_reducible exact H2_) | with_reducible exact H | (rw [hy125]; exact H) | exact H
    have Ny125 := Aside0.mk hy125
    clear hy125
    obtain rfl := Option.some.inj H
    go_enter Try.func9, Try.ntmps9
    go_wp2_with (first | ((with_reducible refine gate_builtin (b := .append) (xs := #[.tmp 4, .tmp 5]) rfl ?_); at_builtin; refine Kd.R_append_rows k37 (w0 := w) w.heap.size rfl (.tmp 4) (.tmp 5) 22 37 (.agg #[(.int .i64 0), (.int .i64 0), (.int .i64 0), (.int .i64 0), (.int .i64 0), (.int .i32 0), (.int .i64 0)]) 56 rfl Try.underlying22 info37 rfl (by decide) (by omega) (.slice none 0 0) ([] : List (S37)) l0 _ _ _ (fun _ => True) (fun _ => False) rfl rfl ?aO ?aR (fun _ _ h => h) (fun _ h => h.elim) ?aF ?aB ?aS ?aL ?_; (case aR => repeat (first | exact HR0.out | (with_reducible refine Kd.C_alloc ?_ _) | (with_reducible refine Kd.C_drewN ?_ _) | (with_reducible refine Kd.C_drew ?_))); (case aB => exact (by repeat (first | (with_reducible first | exact HB.out | apply below_alloc | apply pw_below_drewN | apply below_drew1) | exact HB.out))); (case aF => exact (fun _ _ => trivial)); (case aO => exact ((Kd.R_nil _ _ _ _ (fun _ => True)))); (case aS => exact (below_size (by repeat (first | (with_reducible first | exact HB.out | apply below_alloc | apply pw_below_drewN | apply below_drew1) | exact HB.out)))); (case aL => have := LMc2.out; omega); intro v126 w3 ho hb hg hat; rw [← Ny125.out] at ho; have n0_ := Aside0.mk (hb); have n1_ := Aside0.mk (ho); clear HB; have HB := n0_; have HO127 := n1_; clear n0_ n1_; clear ho hb hg hat))
    go_ret
    exact ⟨_, by first | rfl | (simp [errW_none, errW_some] <;> rfl) | (simp [*, errW_none, errW_some] <;> rfl), by (with_reducible repeat (first | apply Kd.R_alloc | apply Kd.R_drewN | apply Kd.R_drew)); exact HO127.out, by repeat (first | (with_reducible first | exact HB.out | apply below_alloc | apply pw_below_drewN | apply below_drew1) | exact HB.out)⟩
  · rw [if_neg c2] at H
    exact absurd H (by simp)
def cruciblelaw06_awake.f  : Option (Bool) := (asm_Assemble.f (([(⟨1, (⟨0, 0, 0, 0, 0⟩ : S24), 0⟩ : S37), (⟨0, (⟨32, 1, 1, 0, (-1)⟩ : S24), 0⟩ : S37), (⟨0, (⟨40, 0, 1, 0, 0⟩ : S24), 1⟩ : S37)] : List (S37)))).bind fun bt131 => (if bt131.2 = 0 then (if (bt131.1.size : Int) = 8 then (if 4 < (bt131.1.size : Int) then (some ((bt bt131.1 4) == 254)) else (none)) else (some false)) else (some false))
set_option maxHeartbeats 8000000 in
set_option maxRecDepth 100000 in
theorem cruciblelaw06_awake.calls  (r : Bool) (w : World) (h : cruciblelaw06_awake.f  = some r) :
    Calls Try.prog 13 #[] w fun e w' => e = .returned (.bool r) ∧ Below w.heap.size w w' := by
  have hu37 := Try.underlying37
  have hu24 := Try.underlying24
  have HB := Aside0.mk (Below.refl w.heap.size w)
  have H : ((asm_Assemble.f (([(⟨1, (⟨0, 0, 0, 0, 0⟩ : S24), 0⟩ : S37), (⟨0, (⟨32, 1, 1, 0, (-1)⟩ : S24), 0⟩ : S37), (⟨0, (⟨40, 0, 1, 0, 0⟩ : S24), 1⟩ : S37)] : List (S37)))).bind fun bt131 => (if bt131.2 = 0 then (if (bt131.1.size : Int) = 8 then (if 4 < (bt131.1.size : Int) then (some ((bt bt131.1 4) == 254)) else (none)) else (some false)) else (some false))) = some r := h
  clear h
  obtain ⟨y128, hy128⟩ : ∃ y_ : List (S37), y_ = (([(⟨1, (⟨0, 0, 0, 0, 0⟩ : S24), 0⟩ : S37), (⟨0, (⟨32, 1, 1, 0, (-1)⟩ : S24), 0⟩ : S37), (⟨0, (⟨40, 0, 1, 0, 0⟩ : S24), 1⟩ : S37)] : List (S37))) := ⟨_, rfl⟩
  replace H : ((asm_Assemble.f y128).bind fun bt131 => (if bt131.2 = 0 then (if (bt131.1.size : Int) = 8 then (if 4 < (bt131.1.size : Int) then (some ((bt bt131.1 4) == 254)) else (none)) else (some false)) else (some false))) = some r := by first | (rw [hy128]; with_reducible exact H) | (have H2_ := (Option.bind_some _ _).symm.trans H; rw [hy128]; with_reducible exact H2_) | (have H2_ := (Option.bind_some _ _).symm.trans H; with_reducible exact H2_) | with_reducible exact H | (rw [hy128]; exact H) | exact H
  have Ny128 := Aside0.mk hy128
  clear hy128
  replace H := Option.bind_eq_some_iff.mp H
  obtain ⟨⟨t131, t132⟩, A10, H⟩ := H
  replace H : (if t132 = 0 then (if (t131.size : Int) = 8 then (if 4 < (t131.size : Int) then (some ((bt t131 4) == 254)) else (none)) else (some false)) else (some false)) = some r := H
  have A1 := Aside0.mk A10
  clear A10
  by_cases c2 : t132 = 0
  · rw [if_pos c2] at H
    have c2b0 : (t132 == 0) = true := beq_iff_eq.mpr c2
    have c2b1 : (t132 != 0) = false := bne_eq_false_iff_eq.mpr c2
    clear c2
    by_cases c3 : (t131.size : Int) = 8
    · rw [if_pos c3] at H
      have c3b0 : ((t131.size : Int) == 8) = true := beq_iff_eq.mpr c3
      have c3b1 : ((t131.size : Int) != 8) = false := bne_eq_false_iff_eq.mpr c3
      clear c3
      by_cases c4 : 4 < (t131.size : Int)
      · rw [if_pos c4] at H
        have c4b0 : decide (4 < (t131.size : Int)) = true := decide_eq_true c4
        have c4b1 : decide (4 < t131.size) = true := decide_eq_true (by omega)
        clear c4
        obtain rfl := Option.some.inj H
        go_enter Try.func13, Try.ntmps13
        go_wp2_with (first | ((with_reducible refine gate_dst (N := 9) rfl ?_); (try (refine gate_guard (by rfl) ?_; dsimp only)); refine Kd.R_lit k37 _ 37 ?hg (N := 9) ?hd (xs := ([(⟨1, (⟨0, 0, 0, 0, 0⟩ : S24), 0⟩ : S37), (⟨0, (⟨32, 1, 1, 0, (-1)⟩ : S24), 0⟩ : S37), (⟨0, (⟨40, 0, 1, 0, 0⟩ : S24), 1⟩ : S37)] : List (S37))) (inner := [.int .i64 1, .int .i64 0, .int .i64 0, .int .i64 0, .int .i64 0, .int .i32 0, .int .i64 0, .int .i64 0, .int .i64 32, .int .i64 1, .int .i64 1, .int .i64 0, .int .i32 (-1), .int .i64 0, .int .i64 0, .int .i64 40, .int .i64 0, .int .i64 1, .int .i64 0, .int .i32 0, .int .i64 1]) (ok := fun _ => True) (okp := fun _ => True) ?hr ?hp (fun _ hk => hk) trivial (Below.refl _ _) (Nat.le_refl _) (by simp) ?_; (case hd => rfl); (case hg => rfl); (case hr => first | (go_simp; done) | (go_simp; rfl)); (case hp => exact (Reps.c7 (show Kd.M k37 _ _ _ (⟨1, (⟨0, 0, 0, 0, 0⟩ : S24), 0⟩ : S37) [.int .i64 1, .int .i64 0, .int .i64 0, .int .i64 0, .int .i64 0, .int .i32 0, .int .i64 0] from (k37_mkM _ _ _ (⟨1, (⟨0, 0, 0, 0, 0⟩ : S24), 0⟩ : S37) )) (Reps.c7 (show Kd.M k37 _ _ _ (⟨0, (⟨32, 1, 1, 0, (-1)⟩ : S24), 0⟩ : S37) [.int .i64 0, .int .i64 32, .int .i64 1, .int .i64 1, .int .i64 0, .int .i32 (-1), .int .i64 0] from (k37_mkM _ _ _ (⟨0, (⟨32, 1, 1, 0, (-1)⟩ : S24), 0⟩ : S37) )) (Reps.c7 (show Kd.M k37 _ _ _ (⟨0, (⟨40, 0, 1, 0, 0⟩ : S24), 1⟩ : S37) [.int .i64 0, .int .i64 40, .int .i64 0, .int .i64 1, .int .i64 0, .int .i32 0, .int .i64 1] from (k37_mkM _ _ _ (⟨0, (⟨40, 0, 1, 0, 0⟩ : S24), 1⟩ : S37) )) (Reps.none _ _))))); intro v129 w6 ho7 hb hg_ hnew_; clear hg_ hnew_; (first | rw [← Ny128.out] at ho7 | (simp only [Int.reduceToNat] at ho7; rw [← Ny128.out] at ho7)); have n0_ := Aside0.mk (Kd.R_lower ho7 (below_size (by repeat (first | (with_reducible first | exact HB.out | apply below_alloc | apply pw_below_drewN | apply below_drew1) | exact HB.out)))); have n1_ := Aside0.mk (below_step (by repeat (first | (with_reducible first | exact HB.out | apply below_alloc | apply pw_below_drewN | apply below_drew1) | exact HB.out)) hb); clear HB; have HO130 := n0_; have HB := n1_; clear n0_ n1_; clear hb ho7; obtain ⟨Ao8, co8, eo8⟩ := Kd.R_slice HO130.out; subst eo8) | ((with_reducible refine gate_callee (f := 8) rfl ?_); refine goesL_ (some 10) rfl rfl Try.func8 (by kernel_rfl) rfl #[.slice Ao8 y128.length co8] rfl (by (try simp only [List.map_toArray, List.map_cons, List.map_nil]); first | done | rfl | (simp only [List.length_drop, List.length_take]; rfl)) ?_; (with_reducible refine (asm_Assemble.calls _ _ y128 t131 t132 _ ?side1 ?side2 A1.out).mono ?_); (case side1 => repeat (first | exact (Kd.R_reads' HO130.out).2.2 | (with_reducible refine Kd.C_alloc ?_ _) | (with_reducible refine Kd.C_drewN ?_ _) | (with_reducible refine Kd.C_drew ?_))); (case side2 => exact (Kd.R_reads' HO130.out).2.1); rintro e w9 ⟨rfl, hb⟩; refine ⟨_, rfl, ?_⟩; have n0_ := Aside0.mk (Kd.R_below (by (with_reducible repeat (first | apply Kd.R_alloc | apply Kd.R_drewN | apply Kd.R_drew)); exact HO130.out) hb); have n1_ := Aside0.mk (below_step (by repeat (first | (with_reducible first | exact HB.out | apply below_alloc | apply pw_below_drewN | apply below_drew1) | exact HB.out)) hb); clear HO130; clear HB; have HO130 := n0_; have HB := n1_; clear n0_ n1_; (try clear hb); (try clear hb2); (try clear hk); (try clear hi); have p5 : 0 ≤ (4 : Int) := (by omega); have q5 : 4 < t131.size := (by have : (4 : Int) < (t131.size : Int) := of_decide_eq_true (by first | (with_reducible assumption) | assumption); omega); have hx5 : ∀ h : 4 < t131.size, ((t131[4]'h).toNat : Int) = bt t131 4 := bt_at t131 4; clear p5; have qi5 : (4 < (t131.size : Int)) = True := eq_true (of_decide_eq_true (by first | (with_reducible assumption) | assumption)); replace q5 := eq_true q5))
        go_ret
        exact ⟨by first | rfl | (simp [errW_none, errW_some] <;> rfl) | (simp [*, errW_none, errW_some] <;> rfl), by repeat (first | (with_reducible first | exact HB.out | apply below_alloc | apply pw_below_drewN | apply below_drew1) | exact HB.out)⟩
      · rw [if_neg c4] at H
        exact absurd H (by simp)
    · rw [if_neg c3] at H
      have c3b0 : ((t131.size : Int) == 8) = false := beq_eq_false_iff_ne.mpr c3
      have c3b1 : ((t131.size : Int) != 8) = true := bne_iff_ne.mpr c3
      obtain rfl := Option.some.inj H
      go_enter Try.func13, Try.ntmps13
      go_wp2_with (first | ((with_reducible refine gate_dst (N := 9) rfl ?_); (try (refine gate_guard (by rfl) ?_; dsimp only)); refine Kd.R_lit k37 _ 37 ?hg (N := 9) ?hd (xs := ([(⟨1, (⟨0, 0, 0, 0, 0⟩ : S24), 0⟩ : S37), (⟨0, (⟨32, 1, 1, 0, (-1)⟩ : S24), 0⟩ : S37), (⟨0, (⟨40, 0, 1, 0, 0⟩ : S24), 1⟩ : S37)] : List (S37))) (inner := [.int .i64 1, .int .i64 0, .int .i64 0, .int .i64 0, .int .i64 0, .int .i32 0, .int .i64 0, .int .i64 0, .int .i64 32, .int .i64 1, .int .i64 1, .int .i64 0, .int .i32 (-1), .int .i64 0, .int .i64 0, .int .i64 40, .int .i64 0, .int .i64 1, .int .i64 0, .int .i32 0, .int .i64 1]) (ok := fun _ => True) (okp := fun _ => True) ?hr ?hp (fun _ hk => hk) trivial (Below.refl _ _) (Nat.le_refl _) (by simp) ?_; (case hd => rfl); (case hg => rfl); (case hr => first | (go_simp; done) | (go_simp; rfl)); (case hp => exact (Reps.c7 (show Kd.M k37 _ _ _ (⟨1, (⟨0, 0, 0, 0, 0⟩ : S24), 0⟩ : S37) [.int .i64 1, .int .i64 0, .int .i64 0, .int .i64 0, .int .i64 0, .int .i32 0, .int .i64 0] from (k37_mkM _ _ _ (⟨1, (⟨0, 0, 0, 0, 0⟩ : S24), 0⟩ : S37) )) (Reps.c7 (show Kd.M k37 _ _ _ (⟨0, (⟨32, 1, 1, 0, (-1)⟩ : S24), 0⟩ : S37) [.int .i64 0, .int .i64 32, .int .i64 1, .int .i64 1, .int .i64 0, .int .i32 (-1), .int .i64 0] from (k37_mkM _ _ _ (⟨0, (⟨32, 1, 1, 0, (-1)⟩ : S24), 0⟩ : S37) )) (Reps.c7 (show Kd.M k37 _ _ _ (⟨0, (⟨40, 0, 1, 0, 0⟩ : S24), 1⟩ : S37) [.int .i64 0, .int .i64 40, .int .i64 0, .int .i64 1, .int .i64 0, .int .i32 0, .int .i64 1] from (k37_mkM _ _ _ (⟨0, (⟨40, 0, 1, 0, 0⟩ : S24), 1⟩ : S37) )) (Reps.none _ _))))); intro v129 w10 ho11 hb hg_ hnew_; clear hg_ hnew_; (first | rw [← Ny128.out] at ho11 | (simp only [Int.reduceToNat] at ho11; rw [← Ny128.out] at ho11)); have n0_ := Aside0.mk (Kd.R_lower ho11 (below_size (by repeat (first | (with_reducible first | exact HB.out | apply below_alloc | apply pw_below_drewN | apply below_drew1) | exact HB.out)))); have n1_ := Aside0.mk (below_step (by repeat (first | (with_reducible first | exact HB.out | apply below_alloc | apply pw_below_drewN | apply below_drew1) | exact HB.out)) hb); clear HB; have HO130 := n0_; have HB := n1_; clear n0_ n1_; clear hb ho11; obtain ⟨Ao12, co12, eo12⟩ := Kd.R_slice HO130.out; subst eo12) | ((with_reducible refine gate_callee (f := 8) rfl ?_); refine goesL_ (some 10) rfl rfl Try.func8 (by kernel_rfl) rfl #[.slice Ao12 y128.length co12] rfl (by (try simp only [List.map_toArray, List.map_cons, List.map_nil]); first | done | rfl | (simp only [List.length_drop, List.length_take]; rfl)) ?_; (with_reducible refine (asm_Assemble.calls _ _ y128 t131 t132 _ ?side1 ?side2 A1.out).mono ?_); (case side1 => repeat (first | exact (Kd.R_reads' HO130.out).2.2 | (with_reducible refine Kd.C_alloc ?_ _) | (with_reducible refine Kd.C_drewN ?_ _) | (with_reducible refine Kd.C_drew ?_))); (case side2 => exact (Kd.R_reads' HO130.out).2.1); rintro e w13 ⟨rfl, hb⟩; refine ⟨_, rfl, ?_⟩; have n0_ := Aside0.mk (Kd.R_below (by (with_reducible repeat (first | apply Kd.R_alloc | apply Kd.R_drewN | apply Kd.R_drew)); exact HO130.out) hb); have n1_ := Aside0.mk (below_step (by repeat (first | (with_reducible first | exact HB.out | apply below_alloc | apply pw_below_drewN | apply below_drew1) | exact HB.out)) hb); clear HO130; clear HB; have HO130 := n0_; have HB := n1_; clear n0_ n1_; (try clear hb); (try clear hb2); (try clear hk); (try clear hi)))
      go_ret
      exact ⟨by first | rfl | (simp [errW_none, errW_some] <;> rfl) | (simp [*, errW_none, errW_some] <;> rfl), by repeat (first | (with_reducible first | exact HB.out | apply below_alloc | apply pw_below_drewN | apply below_drew1) | exact HB.out)⟩
  · rw [if_neg c2] at H
    have c2b0 : (t132 == 0) = false := beq_eq_false_iff_ne.mpr c2
    have c2b1 : (t132 != 0) = true := bne_iff_ne.mpr c2
    obtain rfl := Option.some.inj H
    go_enter Try.func13, Try.ntmps13
    go_wp2_with (first | ((with_reducible refine gate_dst (N := 9) rfl ?_); (try (refine gate_guard (by rfl) ?_; dsimp only)); refine Kd.R_lit k37 _ 37 ?hg (N := 9) ?hd (xs := ([(⟨1, (⟨0, 0, 0, 0, 0⟩ : S24), 0⟩ : S37), (⟨0, (⟨32, 1, 1, 0, (-1)⟩ : S24), 0⟩ : S37), (⟨0, (⟨40, 0, 1, 0, 0⟩ : S24), 1⟩ : S37)] : List (S37))) (inner := [.int .i64 1, .int .i64 0, .int .i64 0, .int .i64 0, .int .i64 0, .int .i32 0, .int .i64 0, .int .i64 0, .int .i64 32, .int .i64 1, .int .i64 1, .int .i64 0, .int .i32 (-1), .int .i64 0, .int .i64 0, .int .i64 40, .int .i64 0, .int .i64 1, .int .i64 0, .int .i32 0, .int .i64 1]) (ok := fun _ => True) (okp := fun _ => True) ?hr ?hp (fun _ hk => hk) trivial (Below.refl _ _) (Nat.le_refl _) (by simp) ?_; (case hd => rfl); (case hg => rfl); (case hr => first | (go_simp; done) | (go_simp; rfl)); (case hp => exact (Reps.c7 (show Kd.M k37 _ _ _ (⟨1, (⟨0, 0, 0, 0, 0⟩ : S24), 0⟩ : S37) [.int .i64 1, .int .i64 0, .int .i64 0, .int .i64 0, .int .i64 0, .int .i32 0, .int .i64 0] from (k37_mkM _ _ _ (⟨1, (⟨0, 0, 0, 0, 0⟩ : S24), 0⟩ : S37) )) (Reps.c7 (show Kd.M k37 _ _ _ (⟨0, (⟨32, 1, 1, 0, (-1)⟩ : S24), 0⟩ : S37) [.int .i64 0, .int .i64 32, .int .i64 1, .int .i64 1, .int .i64 0, .int .i32 (-1), .int .i64 0] from (k37_mkM _ _ _ (⟨0, (⟨32, 1, 1, 0, (-1)⟩ : S24), 0⟩ : S37) )) (Reps.c7 (show Kd.M k37 _ _ _ (⟨0, (⟨40, 0, 1, 0, 0⟩ : S24), 1⟩ : S37) [.int .i64 0, .int .i64 40, .int .i64 0, .int .i64 1, .int .i64 0, .int .i32 0, .int .i64 1] from (k37_mkM _ _ _ (⟨0, (⟨40, 0, 1, 0, 0⟩ : S24), 1⟩ : S37) )) (Reps.none _ _))))); intro v129 w14 ho15 hb hg_ hnew_; clear hg_ hnew_; (first | rw [← Ny128.out] at ho15 | (simp only [Int.reduceToNat] at ho15; rw [← Ny128.out] at ho15)); have n0_ := Aside0.mk (Kd.R_lower ho15 (below_size (by repeat (first | (with_reducible first | exact HB.out | apply below_alloc | apply pw_below_drewN | apply below_drew1) | exact HB.out)))); have n1_ := Aside0.mk (below_step (by repeat (first | (with_reducible first | exact HB.out | apply below_alloc | apply pw_below_drewN | apply below_drew1) | exact HB.out)) hb); clear HB; have HO130 := n0_; have HB := n1_; clear n0_ n1_; clear hb ho15; obtain ⟨Ao16, co16, eo16⟩ := Kd.R_slice HO130.out; subst eo16) | ((with_reducible refine gate_callee (f := 8) rfl ?_); refine goesL_ (some 10) rfl rfl Try.func8 (by kernel_rfl) rfl #[.slice Ao16 y128.length co16] rfl (by (try simp only [List.map_toArray, List.map_cons, List.map_nil]); first | done | rfl | (simp only [List.length_drop, List.length_take]; rfl)) ?_; (with_reducible refine (asm_Assemble.calls _ _ y128 t131 t132 _ ?side1 ?side2 A1.out).mono ?_); (case side1 => repeat (first | exact (Kd.R_reads' HO130.out).2.2 | (with_reducible refine Kd.C_alloc ?_ _) | (with_reducible refine Kd.C_drewN ?_ _) | (with_reducible refine Kd.C_drew ?_))); (case side2 => exact (Kd.R_reads' HO130.out).2.1); rintro e w17 ⟨rfl, hb⟩; refine ⟨_, rfl, ?_⟩; have n0_ := Aside0.mk (Kd.R_below (by (with_reducible repeat (first | apply Kd.R_alloc | apply Kd.R_drewN | apply Kd.R_drew)); exact HO130.out) hb); have n1_ := Aside0.mk (below_step (by repeat (first | (with_reducible first | exact HB.out | apply below_alloc | apply pw_below_drewN | apply below_drew1) | exact HB.out)) hb); clear HO130; clear HB; have HO130 := n0_; have HB := n1_; clear n0_ n1_; (try clear hb); (try clear hb2); (try clear hk); (try clear hi)))
    go_ret
    exact ⟨by first | rfl | (simp [errW_none, errW_some] <;> rfl) | (simp [*, errW_none, errW_some] <;> rfl), by repeat (first | (with_reducible first | exact HB.out | apply below_alloc | apply pw_below_drewN | apply below_drew1) | exact HB.out)⟩
end Go.Proofs.Ytdhmnjoceeolcaa.GF
end
section
namespace Go.Proofs.Ytdhmnjoceeolcaa.Asm
open Go.RowKit Go.Proofs.YtdhmnjoceeolcaaW.PrintWords Go.Proofs.YtdhmnjoceeolcaaW.PrintLast Go.Proofs.YtdhmnjoceeolcaaW.PrintMore Go.Proofs.Ytdhmnjoceeolcaa.GF
set_option linter.unusedVariables false
set_option linter.unusedSimpArgs false
/-- Where a label stands in the code. -/
def placeV (l : List S37) (k : Int) : Int × Int :=
  if (asmV l).2 = 0 then (match whO l (settle l) l.length k with | none => (0, 4) | some x => (4 * x, 0)) else (0, (asmV l).2)
theorem asmV_ok (l : List S37) (h : (asmV l).2 = 0) : checkV l = 0 ∧ 4 * atV l (settle l) l.length ≤ 1048576 := by
  unfold asmV at h
  by_cases h1 : checkV l = 0
  · rw [if_pos h1] at h
    by_cases h2 : 1048576 < 4 * atV l (settle l) l.length
    · rw [if_pos h2] at h; exact absurd h (by decide)
    · exact ⟨h1, by omega⟩
  · rw [if_neg h1] at h; exact absurd h h1
set_option maxHeartbeats 16000000 in
set_option maxRecDepth 100000 in
theorem Place_calls {w : World} {A : Option Addr} {l : List S37} {c : Nat} (k : Int) (hL : Aside0 (Kd.C k37 w A l.length l)) :
    Calls Try.prog 14 #[.slice A l.length c, .int .i64 k] w fun e w' => e = .returned (.tuple #[.int .i64 (placeV l k).1, .int .i64 (placeV l k).2]) ∧ Below w.heap.size w w' := by
  have hck := assemble_calls (c := c) hL
  have hpv : Aside0 (placeV l k = if (asmV l).2 = 0 then (match whO l (settle l) l.length k with | none => (0, 4) | some x => (4 * x, 0)) else (0, (asmV l).2)) := ⟨rfl⟩
  have hlen := asmV_ok l
  obtain ⟨av, hav⟩ : ∃ av, asmV l = av := ⟨_, rfl⟩
  rw [hav] at hck hpv hlen
  clear hav
  obtain ⟨s, cd⟩ := av
  simp only at hck hpv hlen
  by_cases hc : cd = 0
  · subst hc
    rw [if_pos rfl] at hpv
    have hl2 := check_len l (hlen rfl).1
    clear hlen
    have hr := whO_range l (settle l) k l.length
    go_enter Try.func14, Try.ntmps14
    go_upto_region 5 with (first | (go_at_call 8; (with_reducible refine hck.mono ?_); rintro e w1 ⟨rfl, hb1⟩; replace hb1 := Aside0.mk hb1) | (go_at_call 17; (with_reducible refine (laid_calls ⟨Kd.C_below hL.out hb1.out⟩ hl2).mono ?_); rintro e w5 ⟨p, ga, gl, m, es, rfl, hY, hes, hb5⟩))
    have y2 := (blk_cell hY.out.bp 2).trans (show _ = some (.map (some m)) from rfl)
    have hlk := lookok hY.out.mp k
    rw [hes.out] at hlk
    clear hck
    generalize whO l (settle l) l.length k = o at *
    cases o with
    | none =>
      simp only [Option.getD_none, Option.isSome_none] at hlk
      go_wp2_with fail
      go_ret2
      exact ⟨by rw [hpv.out]; rfl, below_step hb1.out hb5.out⟩
    | some x =>
      simp only [Option.getD_some, Option.isSome_some] at hlk hr
      have hw4 : IntKind.i64.wrap (4 * x) = 4 * x := IntWalk.i64_in _ (by omega)
      go_wp2_with fail
      go_ret2
      exact ⟨by rw [hpv.out]; rfl, below_step hb1.out hb5.out⟩
  · rw [if_neg hc] at hpv
    clear hlen
    have hne : (cd != 0) = true := by simpa using hc
    replace hc := Aside0.mk hc
    go_enter Try.func14, Try.ntmps14
    go_wp2_with (go_at_call 8; (with_reducible refine hck.mono ?_); rintro e w1 ⟨rfl, hb1⟩; replace hb1 := Aside0.mk hb1)
    go_ret2
    exact ⟨by rw [hpv.out]; rfl, hb1.out⟩
end Go.Proofs.Ytdhmnjoceeolcaa.Asm
end
section
namespace Go.Proofs.Ytdhmnjoceeolcaa.GF
open Go.RowKit Go.Proofs.YtdhmnjoceeolcaaW.PrintWords Go.Proofs.YtdhmnjoceeolcaaW.PrintLast Go.Proofs.YtdhmnjoceeolcaaW.PrintMore
attribute [local go_sem] max2_int min2_int max_two min_two max_three min_three max_four min_four   -- for this text's walks alone
set_option linter.unusedVariables false
set_option linter.unusedSimpArgs false
def asm_Place.f (l0 : List (S37)) (a1 : Int) : Option (Int × Int) := some (Asm.placeV l0 a1)
theorem asm_Place.calls (A0 : Option Addr) (c0 : Nat) (l0 : List (S37)) (a1 : Int) (r1 : Int) (r2 : Int) (w : World) (hr0 : Kd.C k37 w A0 l0.length l0) (hc0 : l0.length ≤ c0) (h : asm_Place.f l0 a1 = some (r1, r2)) :
    Calls Try.prog 14 #[.slice A0 l0.length c0, .int .i64 a1] w fun e w' => e = .returned (.tuple #[.int .i64 r1, .int .i64 r2]) ∧ Below w.heap.size w w' := by
  obtain ⟨h1, h2⟩ : (Asm.placeV l0 a1).1 = r1 ∧ (Asm.placeV l0 a1).2 = r2 := by have := Option.some.inj h; rw [this]; exact ⟨rfl, rfl⟩
  subst h1
  subst h2
  exact Asm.Place_calls a1 ⟨hr0⟩
end Go.Proofs.Ytdhmnjoceeolcaa.GF
end
section
namespace Go.Proofs.Ytdhmnjoceeolcaa.GF
open Go.RowKit Go.Proofs.YtdhmnjoceeolcaaW.PrintWords Go.Proofs.YtdhmnjoceeolcaaW.PrintLast Go.Proofs.YtdhmnjoceeolcaaW.PrintMore
attribute [local go_sem] max2_int min2_int max_two min_two max_three min_three max_four min_four   -- for this text's walks alone
set_option linter.unusedVariables false
set_option linter.unusedSimpArgs false
attribute [local go_sem high] eqA24
def crucibleref02_reg.f (a0 : Int) (a1 : Bool) : Option (Bool) := if a0 = 0 then (some true) else (if a1 = true then (if a0 > 0 then (some (decide (a0 < 16))) else (some false)) else (some false))
set_option maxHeartbeats 8000000 in
set_option maxRecDepth 100000 in
theorem crucibleref02_reg.calls (a0 : Int) (a1 : Bool) (r : Bool) (w : World) (h : crucibleref02_reg.f a0 a1 = some r) :
    Calls Try.prog 40 #[.int .i64 a0, .bool a1] w fun e w' => e = .returned (.bool r) ∧ Drawn0 w w' := by
  have H : (if a0 = 0 then (some true) else (if a1 = true then (if a0 > 0 then (some (decide (a0 < 16))) else (some false)) else (some false))) = some r := h
  clear h
  by_cases c3 : a0 = 0
  · rw [if_pos c3] at H
    have c3b0 : (a0 == 0) = true := beq_iff_eq.mpr c3
    have c3b1 : (a0 != 0) = false := bne_eq_false_iff_eq.mpr c3
    clear c3
    obtain rfl := Option.some.inj H
    go_enter Try.func40, Try.ntmps40
    go_wp2
    go_ret
    exact ⟨by first | rfl | (simp; done) | (simp [*]; done), by repeat (first | exact Drawn0.refl _ | apply Drawn0.step)⟩
  · rw [if_neg c3] at H
    have c3b0 : (a0 == 0) = false := beq_eq_false_iff_ne.mpr c3
    have c3b1 : (a0 != 0) = true := bne_iff_ne.mpr c3
    by_cases c4 : a1 = true
    · subst c4
      have H1 : (if a0 > 0 then (some (decide (a0 < 16))) else (some false)) = some r := by rw [if_pos rfl] at H; exact H
      clear H
      have H := H1
      clear H1
      by_cases c5 : a0 > 0
      · rw [if_pos c5] at H
        have c5b0 : decide (0 < a0) = true := decide_eq_true c5
        clear c5
        obtain rfl := Option.some.inj H
        go_enter Try.func40, Try.ntmps40
        go_wp2
        go_ret
        exact ⟨by first | rfl | (simp; done) | (simp [*]; done), by repeat (first | exact Drawn0.refl _ | apply Drawn0.step)⟩
      · rw [if_neg c5] at H
        have c5b0 : decide (0 < a0) = false := decide_eq_false c5
        clear c5
        obtain rfl := Option.some.inj H
        go_enter Try.func40, Try.ntmps40
        go_wp2
        go_ret
        exact ⟨by first | rfl | (simp; done) | (simp [*]; done), by repeat (first | exact Drawn0.refl _ | apply Drawn0.step)⟩
    · replace c4 := Bool.eq_false_iff.mpr c4
      subst c4
      have H1 : (some false) = some r := by rw [if_neg (show ¬ (false = true) by decide)] at H; exact H
      clear H
      have H := H1
      clear H1
      obtain rfl := Option.some.inj H
      go_enter Try.func40, Try.ntmps40
      go_wp2
      go_ret
      exact ⟨by first | rfl | (simp; done) | (simp [*]; done), by repeat (first | exact Drawn0.refl _ | apply Drawn0.step)⟩
def crucibleref02_imm.Im (bits : Int) (sign : Bool) (lo hi : Int) : Prop := (bits = 0 ∧ sign = false ∧ lo = 0 ∧ hi = 0) ∨ (bits = 16 ∧ sign = true ∧ lo = -32768 ∧ hi = 32767) ∨ (bits = 16 ∧ sign = false ∧ lo = 0 ∧ hi = 65535) ∨ (bits = 24 ∧ sign = true ∧ lo = -8388608 ∧ hi = 8388607)
set_option maxHeartbeats 4000000 in
set_option maxRecDepth 100000 in
theorem crucibleref02_imm.imm (op d a b i bits lo hi : Int) (sd sa sb sign is v : Bool) (w : World) (h0 : -2147483648 ≤ i) (h1 : i ≤ 2147483647) (H : crucibleref02_imm.Im bits sign lo hi) (hv : (decide (lo ≤ i) && decide (i ≤ hi)) = v) :
    Calls Try.prog 41 #[.agg #[.int .i64 op, .int .i64 d, .int .i64 a, .int .i64 b, .int .i32 i], .agg #[.bool sd, .bool sa, .bool sb, .int .i64 bits, .bool sign, .bool is]] w
      fun e w' => e = .returned (.bool v) ∧ Below w.heap.size w w' := by
  subst hv
  rcases H with ⟨rfl, rfl, rfl, rfl⟩ | ⟨rfl, rfl, rfl, rfl⟩ | ⟨rfl, rfl, rfl, rfl⟩ | ⟨rfl, rfl, rfl, rfl⟩
  · by_cases c1 : i = 0
    · subst c1
      go_enter Try.func41, Try.ntmps41
      go_wp2
      go_ret
      exact ⟨by simp, by repeat (first | exact Below.refl _ _ | apply below_alloc)⟩
    · have e1 : (i == 0) = false := beq_eq_false_iff_ne.2 c1
      go_enter Try.func41, Try.ntmps41
      go_wp2
      go_ret
      exact ⟨by simp [e1]; omega, by repeat (first | exact Below.refl _ _ | apply below_alloc)⟩
  · by_cases c1 : -32768 ≤ i
    · by_cases c2 : i < 32768
      · go_enter Try.func41, Try.ntmps41
        go_wp2
        go_ret
        exact ⟨by first | (simp; done) | (simp; omega), by repeat (first | exact Below.refl _ _ | apply below_alloc)⟩
      · have c2' : decide (i < 32768) = false := by simpa using c2
        go_enter Try.func41, Try.ntmps41
        go_wp2
        go_ret
        exact ⟨by first | (simp; done) | (simp; omega), by repeat (first | exact Below.refl _ _ | apply below_alloc)⟩
    · have c1' : decide (-32768 ≤ i) = false := by simpa using c1
      go_enter Try.func41, Try.ntmps41
      go_wp2
      go_ret
      exact ⟨by first | (simp; done) | (simp; omega), by repeat (first | exact Below.refl _ _ | apply below_alloc)⟩
  · by_cases c1 : 0 ≤ i
    · by_cases c2 : i < 65536
      · go_enter Try.func41, Try.ntmps41
        go_wp2
        go_ret
        exact ⟨by first | (simp; done) | (simp; omega), by repeat (first | exact Below.refl _ _ | apply below_alloc)⟩
      · have c2' : decide (i < 65536) = false := by simpa using c2
        go_enter Try.func41, Try.ntmps41
        go_wp2
        go_ret
        exact ⟨by first | (simp; done) | (simp; omega), by repeat (first | exact Below.refl _ _ | apply below_alloc)⟩
    · have c1' : decide (0 ≤ i) = false := by simpa using c1
      go_enter Try.func41, Try.ntmps41
      go_wp2
      go_ret
      exact ⟨by first | (simp; done) | (simp; omega), by repeat (first | exact Below.refl _ _ | apply below_alloc)⟩
  · by_cases c1 : -8388608 ≤ i
    · by_cases c2 : i < 8388608
      · go_enter Try.func41, Try.ntmps41
        go_wp2
        go_ret
        exact ⟨by first | (simp; done) | (simp; omega), by repeat (first | exact Below.refl _ _ | apply below_alloc)⟩
      · have c2' : decide (i < 8388608) = false := by simpa using c2
        go_enter Try.func41, Try.ntmps41
        go_wp2
        go_ret
        exact ⟨by first | (simp; done) | (simp; omega), by repeat (first | exact Below.refl _ _ | apply below_alloc)⟩
    · have c1' : decide (-8388608 ≤ i) = false := by simpa using c1
      go_enter Try.func41, Try.ntmps41
      go_wp2
      go_ret
      exact ⟨by first | (simp; done) | (simp; omega), by repeat (first | exact Below.refl _ _ | apply below_alloc)⟩
def crucibleref02_imm.f (a0_0 : Int) (a0_1 : Int) (a0_2 : Int) (a0_3 : Int) (a0_4 : Int) (a1_0 : Bool) (a1_1 : Bool) (a1_2 : Bool) (a1_3 : Int) (a1_4 : Bool) (a1_5 : Bool) : Option (Bool) :=
  if -2147483648 ≤ a0_4 ∧ a0_4 ≤ 2147483647 then
    (if a1_3 = 0 ∧ a1_4 = false then some (decide (0 ≤ a0_4) && decide (a0_4 ≤ 0)) else
    if a1_3 = 16 ∧ a1_4 = true then some (decide (-32768 ≤ a0_4) && decide (a0_4 ≤ 32767)) else
    if a1_3 = 16 ∧ a1_4 = false then some (decide (0 ≤ a0_4) && decide (a0_4 ≤ 65535)) else
    if a1_3 = 24 ∧ a1_4 = true then some (decide (-8388608 ≤ a0_4) && decide (a0_4 ≤ 8388607)) else none)
  else none
theorem crucibleref02_imm.calls (a0_0 : Int) (a0_1 : Int) (a0_2 : Int) (a0_3 : Int) (a0_4 : Int) (a1_0 : Bool) (a1_1 : Bool) (a1_2 : Bool) (a1_3 : Int) (a1_4 : Bool) (a1_5 : Bool) (r : Bool) (w : World) (h : crucibleref02_imm.f a0_0 a0_1 a0_2 a0_3 a0_4 a1_0 a1_1 a1_2 a1_3 a1_4 a1_5 = some r) :
    Calls Try.prog 41 #[.agg #[.int .i64 a0_0, .int .i64 a0_1, .int .i64 a0_2, .int .i64 a0_3, .int .i32 a0_4], .agg #[.bool a1_0, .bool a1_1, .bool a1_2, .int .i64 a1_3, .bool a1_4, .bool a1_5]] w fun e w' => e = .returned (.bool r) ∧ Below w.heap.size w w' := by
  unfold crucibleref02_imm.f at h
  by_cases hr : -2147483648 ≤ a0_4 ∧ a0_4 ≤ 2147483647
  · rw [if_pos hr] at h
    by_cases h1 : a1_3 = 0 ∧ a1_4 = false
    · rw [if_pos h1] at h
      exact crucibleref02_imm.imm _ _ _ _ _ _ 0 0 _ _ _ _ _ _ w hr.1 hr.2 (.inl ⟨h1.1, h1.2, rfl, rfl⟩) (Option.some.inj h)
    · rw [if_neg h1] at h
      by_cases h2 : a1_3 = 16 ∧ a1_4 = true
      · rw [if_pos h2] at h
        exact crucibleref02_imm.imm _ _ _ _ _ _ _ _ _ _ _ _ _ _ w hr.1 hr.2 (.inr (.inl ⟨h2.1, h2.2, rfl, rfl⟩)) (Option.some.inj h)
      · rw [if_neg h2] at h
        by_cases h3 : a1_3 = 16 ∧ a1_4 = false
        · rw [if_pos h3] at h
          exact crucibleref02_imm.imm _ _ _ _ _ _ _ _ _ _ _ _ _ _ w hr.1 hr.2 (.inr (.inr (.inl ⟨h3.1, h3.2, rfl, rfl⟩))) (Option.some.inj h)
        · rw [if_neg h3] at h
          by_cases h4 : a1_3 = 24 ∧ a1_4 = true
          · rw [if_pos h4] at h
            exact crucibleref02_imm.imm _ _ _ _ _ _ _ _ _ _ _ _ _ _ w hr.1 hr.2 (.inr (.inr (.inr ⟨h4.1, h4.2, rfl, rfl⟩))) (Option.some.inj h)
          · rw [if_neg h4] at h; cases h
  · rw [if_neg hr] at h; cases h
def crucibleref02_May.j0 : Nat → Bool → Int → Int → Int → Int → Int → Bool → Bool → Bool → Int → Bool → Bool → Option (Bool)
  | 0, _, _, _, _, _, _, _, _, _, _, _, _ => none
  | k + 1, x19, x162000, x162001, x162002, x162003, x162004, x169000, x169001, x169002, x169003, x169004, x169005 => if x19 = true then (some false) else (if x169005 = true then ((crucibleref02_reg.f x162001 x169000).bind fun t169 => (if t169 = true then ((crucibleref02_reg.f x162002 x169001).bind fun t170 => (if t170 = true then ((crucibleref02_reg.f x162003 x169002).bind fun t171 => (if t171 = true then ((crucibleref02_imm.f x162000 x162001 x162002 x162003 x162004 x169000 x169001 x169002 x169003 x169004 x169005).bind fun t172 => (some t172)) else (some false))) else (some false))) else (some false))) else (some false))
def crucibleref02_May.f (k : Nat) (a0_0 : Int) (a0_1 : Int) (a0_2 : Int) (a0_3 : Int) (a0_4 : Int) : Option (Bool) := (crucibleref02_shaped.f k a0_0).bind fun bt162 => (if a0_0 = 46 then (if a0_4 < 1 then (crucibleref02_May.j0 k true a0_0 a0_1 a0_2 a0_3 a0_4 bt162.1 bt162.2.1 bt162.2.2.1 bt162.2.2.2.1 bt162.2.2.2.2.1 bt162.2.2.2.2.2) else (crucibleref02_May.j0 k (decide (a0_4 > 5)) a0_0 a0_1 a0_2 a0_3 a0_4 bt162.1 bt162.2.1 bt162.2.2.1 bt162.2.2.2.1 bt162.2.2.2.2.1 bt162.2.2.2.2.2)) else (crucibleref02_May.j0 k false a0_0 a0_1 a0_2 a0_3 a0_4 bt162.1 bt162.2.1 bt162.2.2.1 bt162.2.2.2.1 bt162.2.2.2.2.1 bt162.2.2.2.2.2))
set_option maxHeartbeats 8000000 in
set_option maxRecDepth 100000 in
theorem crucibleref02_May.calls (k : Nat) (a0_0 : Int) (a0_1 : Int) (a0_2 : Int) (a0_3 : Int) (a0_4 : Int) (r : Bool) (w : World) (h : crucibleref02_May.f k a0_0 a0_1 a0_2 a0_3 a0_4 = some r) :
    Calls Try.prog 34 #[.agg #[.int .i64 a0_0, .int .i64 a0_1, .int .i64 a0_2, .int .i64 a0_3, .int .i32 a0_4]] w fun e w' => e = .returned (.bool r) ∧ Below w.heap.size w w' := by
  have hu24 := Try.underlying24
  have hu80 := Try.underlying80
  have HB := Aside0.mk (Below.refl w.heap.size w)
  have H : ((crucibleref02_shaped.f k a0_0).bind fun bt162 => (if a0_0 = 46 then (if a0_4 < 1 then (crucibleref02_May.j0 k true a0_0 a0_1 a0_2 a0_3 a0_4 bt162.1 bt162.2.1 bt162.2.2.1 bt162.2.2.2.1 bt162.2.2.2.2.1 bt162.2.2.2.2.2) else (crucibleref02_May.j0 k (decide (a0_4 > 5)) a0_0 a0_1 a0_2 a0_3 a0_4 bt162.1 bt162.2.1 bt162.2.2.1 bt162.2.2.2.1 bt162.2.2.2.2.1 bt162.2.2.2.2.2)) else (crucibleref02_May.j0 k false a0_0 a0_1 a0_2 a0_3 a0_4 bt162.1 bt162.2.1 bt162.2.2.1 bt162.2.2.2.1 bt162.2.2.2.2.1 bt162.2.2.2.2.2))) = some r := h
  clear h
  replace H := Option.bind_eq_some_iff.mp H
  obtain ⟨⟨t162, t163, t164, t165, t166, t167⟩, A20, H⟩ := H
  replace H : (if a0_0 = 46 then (if a0_4 < 1 then (crucibleref02_May.j0 k true a0_0 a0_1 a0_2 a0_3 a0_4 t162 t163 t164 t165 t166 t167) else (crucibleref02_May.j0 k (decide (a0_4 > 5)) a0_0 a0_1 a0_2 a0_3 a0_4 t162 t163 t164 t165 t166 t167)) else (crucibleref02_May.j0 k false a0_0 a0_1 a0_2 a0_3 a0_4 t162 t163 t164 t165 t166 t167)) = some r := H
  have A2 := Aside0.mk A20
  clear A20
  have HC3 := Aside0.mk H
  clear H
  go_enter Try.func34, Try.ntmps34
  go_upto_region 2 with (first | ((with_reducible refine gate_dst (N := 1) rfl ?_); refine box_event ?hg (N := 1) ?hd (cs := #[.int .i64 a0_0, .int .i64 a0_1, .int .i64 a0_2, .int .i64 a0_3, .int .i32 a0_4]) (t := 24) ?hr ?_; (case hd => rfl); (case hg => rfl); (case hr => first | (go_simp; done) | (go_simp; rfl)); intro gb161 hg w4 hbox hb; have n0_ := Aside0.mk (below_step (by repeat (first | (with_reducible first | exact HB.out | apply below_alloc | apply pw_below_drewN | apply below_drew1) | exact HB.out)) hb); have n1_ := Aside0.mk (hbox); have n2_ := Aside0.mk ((by rw [hg]; exact (below_size (by repeat (first | (with_reducible first | exact HB.out | apply below_alloc | apply pw_below_drewN | apply below_drew1) | exact HB.out))) : w.heap.size ≤ gb161)); have n3_ := Aside0.mk ((by rw [hg]; exact (below_size (by repeat (first | (with_reducible first | exact HB.out | apply below_alloc | apply pw_below_drewN | apply below_drew1) | exact HB.out))) : w.heap.size ≤ gb161)); clear HB; have HB := n0_; have BK161 := n1_; have GW161 := n2_; have GE161 := n3_; clear n0_ n1_ n2_ n3_; clear hb hbox hg; have hcz5_0 : w4.cell? ⟨gb161, 0, none⟩ = some (.int .i64 a0_0) := (blk_cell BK161.out 0).trans rfl; have hcz5_1 : w4.cell? ⟨gb161, 1, none⟩ = some (.int .i64 a0_1) := (blk_cell BK161.out 1).trans rfl; have hcz5_2 : w4.cell? ⟨gb161, 2, none⟩ = some (.int .i64 a0_2) := (blk_cell BK161.out 2).trans rfl; have hcz5_3 : w4.cell? ⟨gb161, 3, none⟩ = some (.int .i64 a0_3) := (blk_cell BK161.out 3).trans rfl; have hcz5_4 : w4.cell? ⟨gb161, 4, none⟩ = some (.int .i32 a0_4) := (blk_cell BK161.out 4).trans rfl; have hfz5_0 := blk_frozen BK161.out 0; have hfz5_1 := blk_frozen BK161.out 1; have hfz5_2 := blk_frozen BK161.out 2; have hfz5_3 := blk_frozen BK161.out 3; have hfz5_4 := blk_frozen BK161.out 4) | ((with_reducible refine gate_callee (f := 39) rfl ?_); refine goesL_ (some 6) rfl rfl Try.func39 (by kernel_rfl) rfl #[.int .i64 a0_0] rfl (by (try simp only [List.map_toArray, List.map_cons, List.map_nil]); first | done | rfl | (simp only [List.length_drop, List.length_take]; rfl)) ?_; (with_reducible refine (crucibleref02_shaped.calls k a0_0 t162 t163 t164 t165 t166 t167 _ A2.out).mono ?_); rintro e w6 ⟨rfl, hb⟩; refine ⟨_, rfl, ?_⟩; have n0_ := Aside0.mk (blk_below (g := gb161) (o := .cells #[.int .i64 a0_0, .int .i64 a0_1, .int .i64 a0_2, .int .i64 a0_3, .int .i32 a0_4] 24 (0, 0)) (by (with_reducible repeat (first | refine blk_drewN ?_ _ | refine blk_drew ?_ | refine blk_alloc ?_ _)); exact BK161.out) hb); have n1_ := Aside0.mk (below_step (by repeat (first | (with_reducible first | exact HB.out | apply below_alloc | apply pw_below_drewN | apply below_drew1 | refine below_set ?_ GE161.out) | exact HB.out)) hb); clear BK161; clear HB; have BK161 := n0_; have HB := n1_; clear n0_ n1_; (try clear hb); (try clear hb2); (try clear hk); (try clear hi)) | ((with_reducible refine gate_dst (N := 3) rfl ?_); refine box_event ?hg (N := 3) ?hd (cs := #[.bool false, .bool false, .bool false, .int .i64 0, .bool false, .bool false]) (t := 80) ?hr ?_; (case hd => rfl); (case hg => rfl); (case hr => first | (go_simp; done) | (go_simp; rfl)); intro gb168 hg w7 hbox hb; have n0_ := Aside0.mk (blk_below (g := gb161) (o := .cells #[.int .i64 a0_0, .int .i64 a0_1, .int .i64 a0_2, .int .i64 a0_3, .int .i32 a0_4] 24 (0, 0)) (by (with_reducible repeat (first | refine blk_drewN ?_ _ | refine blk_drew ?_ | refine blk_alloc ?_ _)); exact BK161.out) hb); have n1_ := Aside0.mk (below_step (by repeat (first | (with_reducible first | exact HB.out | apply below_alloc | apply pw_below_drewN | apply below_drew1 | refine below_set ?_ GE161.out) | exact HB.out)) hb); have n2_ := Aside0.mk (hbox); have n3_ := Aside0.mk ((by rw [hg]; exact (below_size (by repeat (first | (with_reducible first | exact HB.out | apply below_alloc | apply pw_below_drewN | apply below_drew1 | refine below_set ?_ GE161.out) | exact HB.out))) : w.heap.size ≤ gb168)); have n4_ := Aside0.mk ((by rw [hg]; exact (below_size (by repeat (first | (with_reducible first | exact HB.out | apply below_alloc | apply pw_below_drewN | apply below_drew1 | refine below_set ?_ GE161.out) | exact HB.out))) : w.heap.size ≤ gb168)); have n5_ := Aside0.mk ((by rw [hg]; exact Nat.ne_of_lt (blk_lt (g := gb161) (o := .cells #[.int .i64 a0_0, .int .i64 a0_1, .int .i64 a0_2, .int .i64 a0_3, .int .i32 a0_4] 24 (0, 0)) (by (with_reducible repeat (first | refine blk_drewN ?_ _ | refine blk_drew ?_ | refine blk_alloc ?_ _)); exact BK161.out)) : gb161 ≠ gb168)); have n6_ := Aside0.mk ((by rw [hg]; exact Nat.ne_of_gt (blk_lt (g := gb161) (o := .cells #[.int .i64 a0_0, .int .i64 a0_1, .int .i64 a0_2, .int .i64 a0_3, .int .i32 a0_4] 24 (0, 0)) (by (with_reducible repeat (first | refine blk_drewN ?_ _ | refine blk_drew ?_ | refine blk_alloc ?_ _)); exact BK161.out)) : gb168 ≠ gb161)); clear BK161; clear HB; have BK161 := n0_; have HB := n1_; have BK168 := n2_; have GW168 := n3_; have GE168 := n4_; have NB161_168 := n5_; have NB168_161 := n6_; clear n0_ n1_ n2_ n3_ n4_ n5_ n6_; clear hb hbox hg; have hnb8 := NB168_161.out; have hnc8 := NB161_168.out; have hcz9_0 : w7.cell? ⟨gb168, 0, none⟩ = some (.bool false) := (blk_cell BK168.out 0).trans rfl; have hcz9_1 : w7.cell? ⟨gb168, 1, none⟩ = some (.bool false) := (blk_cell BK168.out 1).trans rfl; have hcz9_2 : w7.cell? ⟨gb168, 2, none⟩ = some (.bool false) := (blk_cell BK168.out 2).trans rfl; have hcz9_3 : w7.cell? ⟨gb168, 3, none⟩ = some (.int .i64 0) := (blk_cell BK168.out 3).trans rfl; have hcz9_4 : w7.cell? ⟨gb168, 4, none⟩ = some (.bool false) := (blk_cell BK168.out 4).trans rfl; have hcz9_5 : w7.cell? ⟨gb168, 5, none⟩ = some (.bool false) := (blk_cell BK168.out 5).trans rfl; have hfz9_0 := blk_frozen BK168.out 0; have hfz9_1 := blk_frozen BK168.out 1; have hfz9_2 := blk_frozen BK168.out 2; have hfz9_3 := blk_frozen BK168.out 3; have hfz9_4 := blk_frozen BK168.out 4; have hfz9_5 := blk_frozen BK168.out 5))
  (try simp only [Act.put, List.setIfInBounds_toArray, List.set_cons_zero, List.set_cons_succ])
  go_cut [19] (fun v19 wc => ∃ (kq : Nat) (x19_2 : Bool), v19 = .bool x19_2 ∧ Aside0 (crucibleref02_May.j0 kq x19_2 a0_0 a0_1 a0_2 a0_3 a0_4 t162 t163 t164 t165 t166 t167 = some r) ∧ Aside0 (kq ≤ k) ∧ Aside0 (wc.heap[gb161]? = some (.cells #[.int .i64 a0_0, .int .i64 a0_1, .int .i64 a0_2, .int .i64 a0_3, .int .i32 a0_4] 24 (0, 0))) ∧ Aside0 (wc.heap[gb168]? = some (.cells #[.bool t162, .bool t163, .bool t164, .int .i64 t165, .bool t166, .bool t167] 80 (0, 0))) ∧ Aside0 (Below w.heap.size w wc))
  case first =>
    have H := HC3.out
    clear HC3
    by_cases c10 : a0_0 = 46
    · rw [if_pos c10] at H
      have c10b0 : (a0_0 == 46) = true := beq_iff_eq.mpr c10
      have c10b1 : (a0_0 != 46) = false := bne_eq_false_iff_eq.mpr c10
      clear c10
      (first | rw [c10b0] | (simp only [i64_w, i32_w]; rw [c10b0]) | skip)
      by_cases c11 : a0_4 < 1
      · rw [if_pos c11] at H
        have c11b0 : decide (a0_4 < 1) = true := decide_eq_true c11
        clear c11
        have H' := Aside0.mk H
        clear H
        have hnb12 := NB161_168.out
        have hnc12 := NB168_161.out
        have hcz13_0 : w7.cell? ⟨gb161, 0, none⟩ = some (.int .i64 a0_0) := (blk_cell BK161.out 0).trans rfl
        have hcz13_1 : w7.cell? ⟨gb161, 1, none⟩ = some (.int .i64 a0_1) := (blk_cell BK161.out 1).trans rfl
        have hcz13_2 : w7.cell? ⟨gb161, 2, none⟩ = some (.int .i64 a0_2) := (blk_cell BK161.out 2).trans rfl
        have hcz13_3 : w7.cell? ⟨gb161, 3, none⟩ = some (.int .i64 a0_3) := (blk_cell BK161.out 3).trans rfl
        have hcz13_4 : w7.cell? ⟨gb161, 4, none⟩ = some (.int .i32 a0_4) := (blk_cell BK161.out 4).trans rfl
        have hfz13_0 := blk_frozen BK161.out 0
        have hfz13_1 := blk_frozen BK161.out 1
        have hfz13_2 := blk_frozen BK161.out 2
        have hfz13_3 := blk_frozen BK161.out 3
        have hfz13_4 := blk_frozen BK161.out 4
        go_wp2
        go_meet
        case rel => exact ⟨_, (true), (by first | rfl | (simp; done) | (simp [*]; done)), H', ⟨by first | omega | exact Nat.le_refl _⟩, ⟨by (with_reducible repeat (first | refine blk_drewN ?_ _ | refine blk_drew ?_ | refine blk_alloc ?_ _)); refine blk_far ?_ NB161_168.out _; (with_reducible repeat (first | refine blk_drewN ?_ _ | refine blk_drew ?_ | refine blk_alloc ?_ _)); refine blk_far ?_ NB161_168.out _; (with_reducible repeat (first | refine blk_drewN ?_ _ | refine blk_drew ?_ | refine blk_alloc ?_ _)); refine blk_far ?_ NB161_168.out _; (with_reducible repeat (first | refine blk_drewN ?_ _ | refine blk_drew ?_ | refine blk_alloc ?_ _)); refine blk_far ?_ NB161_168.out _; (with_reducible repeat (first | refine blk_drewN ?_ _ | refine blk_drew ?_ | refine blk_alloc ?_ _)); refine blk_far ?_ NB161_168.out _; (with_reducible repeat (first | refine blk_drewN ?_ _ | refine blk_drew ?_ | refine blk_alloc ?_ _)); refine blk_far ?_ NB161_168.out _; (with_reducible repeat (first | refine blk_drewN ?_ _ | refine blk_drew ?_ | refine blk_alloc ?_ _)); exact BK161.out⟩, ⟨by (with_reducible repeat (first | refine blk_drewN ?_ _ | refine blk_drew ?_ | refine blk_alloc ?_ _)); refine blk_put (cs := #[.bool t162, .bool t163, .bool t164, .int .i64 t165, .bool t166, .bool false]) ?_ 5 _ rfl; (with_reducible repeat (first | refine blk_drewN ?_ _ | refine blk_drew ?_ | refine blk_alloc ?_ _)); refine blk_put (cs := #[.bool t162, .bool t163, .bool t164, .int .i64 t165, .bool false, .bool false]) ?_ 4 _ rfl; (with_reducible repeat (first | refine blk_drewN ?_ _ | refine blk_drew ?_ | refine blk_alloc ?_ _)); refine blk_put (cs := #[.bool t162, .bool t163, .bool t164, .int .i64 0, .bool false, .bool false]) ?_ 3 _ rfl; (with_reducible repeat (first | refine blk_drewN ?_ _ | refine blk_drew ?_ | refine blk_alloc ?_ _)); refine blk_put (cs := #[.bool t162, .bool t163, .bool false, .int .i64 0, .bool false, .bool false]) ?_ 2 _ rfl; (with_reducible repeat (first | refine blk_drewN ?_ _ | refine blk_drew ?_ | refine blk_alloc ?_ _)); refine blk_put (cs := #[.bool t162, .bool false, .bool false, .int .i64 0, .bool false, .bool false]) ?_ 1 _ rfl; (with_reducible repeat (first | refine blk_drewN ?_ _ | refine blk_drew ?_ | refine blk_alloc ?_ _)); refine blk_put (cs := #[.bool false, .bool false, .bool false, .int .i64 0, .bool false, .bool false]) ?_ 0 _ rfl; (with_reducible repeat (first | refine blk_drewN ?_ _ | refine blk_drew ?_ | refine blk_alloc ?_ _)); exact BK168.out⟩, ⟨by repeat (first | (with_reducible first | exact HB.out | apply below_alloc | apply pw_below_drewN | apply below_drew1 | refine below_set ?_ GE161.out | refine below_set ?_ GE168.out) | exact HB.out)⟩⟩
      · rw [if_neg c11] at H
        have c11b0 : decide (a0_4 < 1) = false := decide_eq_false c11
        clear c11
        have H' := Aside0.mk H
        clear H
        have hnb14 := NB161_168.out
        have hnc14 := NB168_161.out
        have hcz15_0 : w7.cell? ⟨gb161, 0, none⟩ = some (.int .i64 a0_0) := (blk_cell BK161.out 0).trans rfl
        have hcz15_1 : w7.cell? ⟨gb161, 1, none⟩ = some (.int .i64 a0_1) := (blk_cell BK161.out 1).trans rfl
        have hcz15_2 : w7.cell? ⟨gb161, 2, none⟩ = some (.int .i64 a0_2) := (blk_cell BK161.out 2).trans rfl
        have hcz15_3 : w7.cell? ⟨gb161, 3, none⟩ = some (.int .i64 a0_3) := (blk_cell BK161.out 3).trans rfl
        have hcz15_4 : w7.cell? ⟨gb161, 4, none⟩ = some (.int .i32 a0_4) := (blk_cell BK161.out 4).trans rfl
        have hfz15_0 := blk_frozen BK161.out 0
        have hfz15_1 := blk_frozen BK161.out 1
        have hfz15_2 := blk_frozen BK161.out 2
        have hfz15_3 := blk_frozen BK161.out 3
        have hfz15_4 := blk_frozen BK161.out 4
        go_wp2
        go_meet
        case rel => exact ⟨_, (decide (a0_4 > 5)), (by first | rfl | (simp; done) | (simp [*]; done)), H', ⟨by first | omega | exact Nat.le_refl _⟩, ⟨by (with_reducible repeat (first | refine blk_drewN ?_ _ | refine blk_drew ?_ | refine blk_alloc ?_ _)); refine blk_far ?_ NB161_168.out _; (with_reducible repeat (first | refine blk_drewN ?_ _ | refine blk_drew ?_ | refine blk_alloc ?_ _)); refine blk_far ?_ NB161_168.out _; (with_reducible repeat (first | refine blk_drewN ?_ _ | refine blk_drew ?_ | refine blk_alloc ?_ _)); refine blk_far ?_ NB161_168.out _; (with_reducible repeat (first | refine blk_drewN ?_ _ | refine blk_drew ?_ | refine blk_alloc ?_ _)); refine blk_far ?_ NB161_168.out _; (with_reducible repeat (first | refine blk_drewN ?_ _ | refine blk_drew ?_ | refine blk_alloc ?_ _)); refine blk_far ?_ NB161_168.out _; (with_reducible repeat (first | refine blk_drewN ?_ _ | refine blk_drew ?_ | refine blk_alloc ?_ _)); refine blk_far ?_ NB161_168.out _; (with_reducible repeat (first | refine blk_drewN ?_ _ | refine blk_drew ?_ | refine blk_alloc ?_ _)); exact BK161.out⟩, ⟨by (with_reducible repeat (first | refine blk_drewN ?_ _ | refine blk_drew ?_ | refine blk_alloc ?_ _)); refine blk_put (cs := #[.bool t162, .bool t163, .bool t164, .int .i64 t165, .bool t166, .bool false]) ?_ 5 _ rfl; (with_reducible repeat (first | refine blk_drewN ?_ _ | refine blk_drew ?_ | refine blk_alloc ?_ _)); refine blk_put (cs := #[.bool t162, .bool t163, .bool t164, .int .i64 t165, .bool false, .bool false]) ?_ 4 _ rfl; (with_reducible repeat (first | refine blk_drewN ?_ _ | refine blk_drew ?_ | refine blk_alloc ?_ _)); refine blk_put (cs := #[.bool t162, .bool t163, .bool t164, .int .i64 0, .bool false, .bool false]) ?_ 3 _ rfl; (with_reducible repeat (first | refine blk_drewN ?_ _ | refine blk_drew ?_ | refine blk_alloc ?_ _)); refine blk_put (cs := #[.bool t162, .bool t163, .bool false, .int .i64 0, .bool false, .bool false]) ?_ 2 _ rfl; (with_reducible repeat (first | refine blk_drewN ?_ _ | refine blk_drew ?_ | refine blk_alloc ?_ _)); refine blk_put (cs := #[.bool t162, .bool false, .bool false, .int .i64 0, .bool false, .bool false]) ?_ 1 _ rfl; (with_reducible repeat (first | refine blk_drewN ?_ _ | refine blk_drew ?_ | refine blk_alloc ?_ _)); refine blk_put (cs := #[.bool false, .bool false, .bool false, .int .i64 0, .bool false, .bool false]) ?_ 0 _ rfl; (with_reducible repeat (first | refine blk_drewN ?_ _ | refine blk_drew ?_ | refine blk_alloc ?_ _)); exact BK168.out⟩, ⟨by repeat (first | (with_reducible first | exact HB.out | apply below_alloc | apply pw_below_drewN | apply below_drew1 | refine below_set ?_ GE161.out | refine below_set ?_ GE168.out) | exact HB.out)⟩⟩
    · rw [if_neg c10] at H
      have c10b0 : (a0_0 == 46) = false := beq_eq_false_iff_ne.mpr c10
      have c10b1 : (a0_0 != 46) = true := bne_iff_ne.mpr c10
      (first | rw [c10b0] | (simp only [i64_w, i32_w]; rw [c10b0]) | skip)
      have H' := Aside0.mk H
      clear H
      have hnb16 := NB161_168.out
      have hnc16 := NB168_161.out
      have hcz17_0 : w7.cell? ⟨gb161, 0, none⟩ = some (.int .i64 a0_0) := (blk_cell BK161.out 0).trans rfl
      have hcz17_1 : w7.cell? ⟨gb161, 1, none⟩ = some (.int .i64 a0_1) := (blk_cell BK161.out 1).trans rfl
      have hcz17_2 : w7.cell? ⟨gb161, 2, none⟩ = some (.int .i64 a0_2) := (blk_cell BK161.out 2).trans rfl
      have hcz17_3 : w7.cell? ⟨gb161, 3, none⟩ = some (.int .i64 a0_3) := (blk_cell BK161.out 3).trans rfl
      have hcz17_4 : w7.cell? ⟨gb161, 4, none⟩ = some (.int .i32 a0_4) := (blk_cell BK161.out 4).trans rfl
      have hfz17_0 := blk_frozen BK161.out 0
      have hfz17_1 := blk_frozen BK161.out 1
      have hfz17_2 := blk_frozen BK161.out 2
      have hfz17_3 := blk_frozen BK161.out 3
      have hfz17_4 := blk_frozen BK161.out 4
      go_wp2
      go_meet
      case rel => exact ⟨_, (false), (by first | rfl | (simp; done) | (simp [*]; done)), H', ⟨by first | omega | exact Nat.le_refl _⟩, ⟨by (with_reducible repeat (first | refine blk_drewN ?_ _ | refine blk_drew ?_ | refine blk_alloc ?_ _)); refine blk_far ?_ NB161_168.out _; (with_reducible repeat (first | refine blk_drewN ?_ _ | refine blk_drew ?_ | refine blk_alloc ?_ _)); refine blk_far ?_ NB161_168.out _; (with_reducible repeat (first | refine blk_drewN ?_ _ | refine blk_drew ?_ | refine blk_alloc ?_ _)); refine blk_far ?_ NB161_168.out _; (with_reducible repeat (first | refine blk_drewN ?_ _ | refine blk_drew ?_ | refine blk_alloc ?_ _)); refine blk_far ?_ NB161_168.out _; (with_reducible repeat (first | refine blk_drewN ?_ _ | refine blk_drew ?_ | refine blk_alloc ?_ _)); refine blk_far ?_ NB161_168.out _; (with_reducible repeat (first | refine blk_drewN ?_ _ | refine blk_drew ?_ | refine blk_alloc ?_ _)); refine blk_far ?_ NB161_168.out _; (with_reducible repeat (first | refine blk_drewN ?_ _ | refine blk_drew ?_ | refine blk_alloc ?_ _)); exact BK161.out⟩, ⟨by (with_reducible repeat (first | refine blk_drewN ?_ _ | refine blk_drew ?_ | refine blk_alloc ?_ _)); refine blk_put (cs := #[.bool t162, .bool t163, .bool t164, .int .i64 t165, .bool t166, .bool false]) ?_ 5 _ rfl; (with_reducible repeat (first | refine blk_drewN ?_ _ | refine blk_drew ?_ | refine blk_alloc ?_ _)); refine blk_put (cs := #[.bool t162, .bool t163, .bool t164, .int .i64 t165, .bool false, .bool false]) ?_ 4 _ rfl; (with_reducible repeat (first | refine blk_drewN ?_ _ | refine blk_drew ?_ | refine blk_alloc ?_ _)); refine blk_put (cs := #[.bool t162, .bool t163, .bool t164, .int .i64 0, .bool false, .bool false]) ?_ 3 _ rfl; (with_reducible repeat (first | refine blk_drewN ?_ _ | refine blk_drew ?_ | refine blk_alloc ?_ _)); refine blk_put (cs := #[.bool t162, .bool t163, .bool false, .int .i64 0, .bool false, .bool false]) ?_ 2 _ rfl; (with_reducible repeat (first | refine blk_drewN ?_ _ | refine blk_drew ?_ | refine blk_alloc ?_ _)); refine blk_put (cs := #[.bool t162, .bool false, .bool false, .int .i64 0, .bool false, .bool false]) ?_ 1 _ rfl; (with_reducible repeat (first | refine blk_drewN ?_ _ | refine blk_drew ?_ | refine blk_alloc ?_ _)); refine blk_put (cs := #[.bool false, .bool false, .bool false, .int .i64 0, .bool false, .bool false]) ?_ 0 _ rfl; (with_reducible repeat (first | refine blk_drewN ?_ _ | refine blk_drew ?_ | refine blk_alloc ?_ _)); exact BK168.out⟩, ⟨by repeat (first | (with_reducible first | exact HB.out | apply below_alloc | apply pw_below_drewN | apply below_drew1 | refine below_set ?_ GE161.out | refine below_set ?_ GE168.out) | exact HB.out)⟩⟩
  case rest =>
    clear HC3
    try clear c1
    try clear p2
    try clear c3
    try clear c8
    try clear c10
    try clear c10b0
    try clear c10b1
    try clear c11
    try clear c11b0
    try clear c12
    try clear c14
    try clear c16
    try clear hcz13_0
    try clear hcz13_1
    try clear hcz13_2
    try clear hcz13_3
    try clear hcz13_4
    try clear hcz15_0
    try clear hcz15_1
    try clear hcz15_2
    try clear hcz15_3
    try clear hcz15_4
    try clear hcz17_0
    try clear hcz17_1
    try clear hcz17_2
    try clear hcz17_3
    try clear hcz17_4
    try clear hcz5_0
    try clear hcz5_1
    try clear hcz5_2
    try clear hcz5_3
    try clear hcz5_4
    try clear hcz9_0
    try clear hcz9_1
    try clear hcz9_2
    try clear hcz9_3
    try clear hcz9_4
    try clear hcz9_5
    try clear hfz13_0
    try clear hfz13_1
    try clear hfz13_2
    try clear hfz13_3
    try clear hfz13_4
    try clear hfz15_0
    try clear hfz15_1
    try clear hfz15_2
    try clear hfz15_3
    try clear hfz15_4
    try clear hfz17_0
    try clear hfz17_1
    try clear hfz17_2
    try clear hfz17_3
    try clear hfz17_4
    try clear hfz5_0
    try clear hfz5_1
    try clear hfz5_2
    try clear hfz5_3
    try clear hfz5_4
    try clear hfz9_0
    try clear hfz9_1
    try clear hfz9_2
    try clear hfz9_3
    try clear hfz9_4
    try clear hfz9_5
    obtain ⟨kq, x19_2, rfl, HA, HJ2, BK161, BK168, HB⟩ := hcut
    cases kq with
    | zero => exact absurd HA.out (by simp [crucibleref02_May.j0])
    | succ kj2 =>
      have H := HA.out
      clear HA
      simp only [crucibleref02_May.j0] at H
      by_cases c18 : x19_2 = true
      · subst c18
        have H1 : (some false) = some r := by rw [if_pos rfl] at H; exact H
        clear H
        have H := H1
        clear H1
        obtain rfl := Option.some.inj H
        go_wp2
        go_ret
        exact ⟨by first | rfl | (simp [errW_none, errW_some] <;> rfl) | (simp [*, errW_none, errW_some] <;> rfl), by repeat (first | (with_reducible first | exact HB.out | apply below_alloc | apply pw_below_drewN | apply below_drew1 | refine below_set ?_ GE161.out | refine below_set ?_ GE168.out) | exact HB.out)⟩
      · replace c18 := Bool.eq_false_iff.mpr c18
        subst c18
        have H1 : (if t167 = true then ((crucibleref02_reg.f a0_1 t162).bind fun t169 => (if t169 = true then ((crucibleref02_reg.f a0_2 t163).bind fun t170 => (if t170 = true then ((crucibleref02_reg.f a0_3 t164).bind fun t171 => (if t171 = true then ((crucibleref02_imm.f a0_0 a0_1 a0_2 a0_3 a0_4 t162 t163 t164 t165 t166 t167).bind fun t172 => (some t172)) else (some false))) else (some false))) else (some false))) else (some false)) = some r := by rw [if_neg (show ¬ (false = true) by decide)] at H; exact H
        clear H
        have H := H1
        clear H1
        by_cases c19 : t167 = true
        · subst c19
          have H1 : ((crucibleref02_reg.f a0_1 t162).bind fun t169 => (if t169 = true then ((crucibleref02_reg.f a0_2 t163).bind fun t170 => (if t170 = true then ((crucibleref02_reg.f a0_3 t164).bind fun t171 => (if t171 = true then ((crucibleref02_imm.f a0_0 a0_1 a0_2 a0_3 a0_4 t162 t163 t164 t165 t166 true).bind fun t172 => (some t172)) else (some false))) else (some false))) else (some false))) = some r := by rw [if_pos rfl] at H; exact H
          clear H
          have H := H1
          clear H1
          replace H := Option.bind_eq_some_iff.mp H
          obtain ⟨t169, A200, H⟩ := H
          replace H : (if t169 = true then ((crucibleref02_reg.f a0_2 t163).bind fun t170 => (if t170 = true then ((crucibleref02_reg.f a0_3 t164).bind fun t171 => (if t171 = true then ((crucibleref02_imm.f a0_0 a0_1 a0_2 a0_3 a0_4 t162 t163 t164 t165 t166 true).bind fun t172 => (some t172)) else (some false))) else (some false))) else (some false)) = some r := H
          have A20 := Aside0.mk A200
          clear A200
          by_cases c21 : t169 = true
          · subst c21
            have H1 : ((crucibleref02_reg.f a0_2 t163).bind fun t170 => (if t170 = true then ((crucibleref02_reg.f a0_3 t164).bind fun t171 => (if t171 = true then ((crucibleref02_imm.f a0_0 a0_1 a0_2 a0_3 a0_4 t162 t163 t164 t165 t166 true).bind fun t172 => (some t172)) else (some false))) else (some false))) = some r := by rw [if_pos rfl] at H; exact H
            clear H
            have H := H1
            clear H1
            replace H := Option.bind_eq_some_iff.mp H
            obtain ⟨t170, A220, H⟩ := H
            replace H : (if t170 = true then ((crucibleref02_reg.f a0_3 t164).bind fun t171 => (if t171 = true then ((crucibleref02_imm.f a0_0 a0_1 a0_2 a0_3 a0_4 t162 t163 t164 t165 t166 true).bind fun t172 => (some t172)) else (some false))) else (some false)) = some r := H
            have A22 := Aside0.mk A220
            clear A220
            by_cases c23 : t170 = true
            · subst c23
              have H1 : ((crucibleref02_reg.f a0_3 t164).bind fun t171 => (if t171 = true then ((crucibleref02_imm.f a0_0 a0_1 a0_2 a0_3 a0_4 t162 t163 t164 t165 t166 true).bind fun t172 => (some t172)) else (some false))) = some r := by rw [if_pos rfl] at H; exact H
              clear H
              have H := H1
              clear H1
              replace H := Option.bind_eq_some_iff.mp H
              obtain ⟨t171, A240, H⟩ := H
              replace H : (if t171 = true then ((crucibleref02_imm.f a0_0 a0_1 a0_2 a0_3 a0_4 t162 t163 t164 t165 t166 true).bind fun t172 => (some t172)) else (some false)) = some r := H
              have A24 := Aside0.mk A240
              clear A240
              by_cases c25 : t171 = true
              · subst c25
                have H1 : ((crucibleref02_imm.f a0_0 a0_1 a0_2 a0_3 a0_4 t162 t163 t164 t165 t166 true).bind fun t172 => (some t172)) = some r := by rw [if_pos rfl] at H; exact H
                clear H
                have H := H1
                clear H1
                replace H := Option.bind_eq_some_iff.mp H
                obtain ⟨t172, A260, H⟩ := H
                replace H : (some t172) = some r := H
                have A26 := Aside0.mk A260
                clear A260
                obtain rfl := Option.some.inj H
                have hnb27 := NB168_161.out
                have hnc27 := NB161_168.out
                have hcz28_0 : wc.cell? ⟨gb168, 0, none⟩ = some (.bool t162) := (blk_cell BK168.out 0).trans rfl
                have hcz28_1 : wc.cell? ⟨gb168, 1, none⟩ = some (.bool t163) := (blk_cell BK168.out 1).trans rfl
                have hcz28_2 : wc.cell? ⟨gb168, 2, none⟩ = some (.bool t164) := (blk_cell BK168.out 2).trans rfl
                have hcz28_3 : wc.cell? ⟨gb168, 3, none⟩ = some (.int .i64 t165) := (blk_cell BK168.out 3).trans rfl
                have hcz28_4 : wc.cell? ⟨gb168, 4, none⟩ = some (.bool t166) := (blk_cell BK168.out 4).trans rfl
                have hcz28_5 : wc.cell? ⟨gb168, 5, none⟩ = some (.bool true) := (blk_cell BK168.out 5).trans rfl
                have hfz28_0 := blk_frozen BK168.out 0
                have hfz28_1 := blk_frozen BK168.out 1
                have hfz28_2 := blk_frozen BK168.out 2
                have hfz28_3 := blk_frozen BK168.out 3
                have hfz28_4 := blk_frozen BK168.out 4
                have hfz28_5 := blk_frozen BK168.out 5
                have hcz29_0 : wc.cell? ⟨gb161, 0, none⟩ = some (.int .i64 a0_0) := (blk_cell BK161.out 0).trans rfl
                have hcz29_1 : wc.cell? ⟨gb161, 1, none⟩ = some (.int .i64 a0_1) := (blk_cell BK161.out 1).trans rfl
                have hcz29_2 : wc.cell? ⟨gb161, 2, none⟩ = some (.int .i64 a0_2) := (blk_cell BK161.out 2).trans rfl
                have hcz29_3 : wc.cell? ⟨gb161, 3, none⟩ = some (.int .i64 a0_3) := (blk_cell BK161.out 3).trans rfl
                have hcz29_4 : wc.cell? ⟨gb161, 4, none⟩ = some (.int .i32 a0_4) := (blk_cell BK161.out 4).trans rfl
                have hfz29_0 := blk_frozen BK161.out 0
                have hfz29_1 := blk_frozen BK161.out 1
                have hfz29_2 := blk_frozen BK161.out 2
                have hfz29_3 := blk_frozen BK161.out 3
                have hfz29_4 := blk_frozen BK161.out 4
                go_wp2_with (first | (go_at_call 40; (with_reducible refine (crucibleref02_reg.calls a0_1 t162 true _ A20.out).mono ?_); rintro e w' ⟨rfl, ⟨nd, rfl⟩⟩) | (go_at_call 40; (with_reducible refine (crucibleref02_reg.calls a0_2 t163 true _ A22.out).mono ?_); rintro e w' ⟨rfl, ⟨nd, rfl⟩⟩) | (go_at_call 40; (with_reducible refine (crucibleref02_reg.calls a0_3 t164 true _ A24.out).mono ?_); rintro e w' ⟨rfl, ⟨nd, rfl⟩⟩) | (go_at_call 41; (with_reducible refine (crucibleref02_imm.calls a0_0 a0_1 a0_2 a0_3 a0_4 t162 t163 t164 t165 t166 true t172 _ A26.out).mono ?_); rintro e w30 ⟨rfl, hb⟩; have n0_ := Aside0.mk (blk_below (g := gb161) (o := .cells #[.int .i64 a0_0, .int .i64 a0_1, .int .i64 a0_2, .int .i64 a0_3, .int .i32 a0_4] 24 (0, 0)) (by (with_reducible repeat (first | refine blk_drewN ?_ _ | refine blk_drew ?_ | refine blk_alloc ?_ _)); exact BK161.out) hb); have n1_ := Aside0.mk (blk_below (g := gb168) (o := .cells #[.bool t162, .bool t163, .bool t164, .int .i64 t165, .bool t166, .bool true] 80 (0, 0)) (by (with_reducible repeat (first | refine blk_drewN ?_ _ | refine blk_drew ?_ | refine blk_alloc ?_ _)); exact BK168.out) hb); have n2_ := Aside0.mk (below_step (by repeat (first | (with_reducible first | exact HB.out | apply below_alloc | apply pw_below_drewN | apply below_drew1 | refine below_set ?_ GE161.out | refine below_set ?_ GE168.out) | exact HB.out)) hb); clear BK161; clear BK168; clear HB; have BK161 := n0_; have BK168 := n1_; have HB := n2_; clear n0_ n1_ n2_; (try clear hb); (try clear hb2); (try clear hk); (try clear hi)))
                go_ret
                exact ⟨by first | rfl | (simp [errW_none, errW_some] <;> rfl) | (simp [*, errW_none, errW_some] <;> rfl), by repeat (first | (with_reducible first | exact HB.out | apply below_alloc | apply pw_below_drewN | apply below_drew1 | refine below_set ?_ GE161.out | refine below_set ?_ GE168.out) | exact HB.out)⟩
              · replace c25 := Bool.eq_false_iff.mpr c25
                subst c25
                have H1 : (some false) = some r := by rw [if_neg (show ¬ (false = true) by decide)] at H; exact H
                clear H
                have H := H1
                clear H1
                obtain rfl := Option.some.inj H
                have hnb31 := NB168_161.out
                have hnc31 := NB161_168.out
                have hcz32_0 : wc.cell? ⟨gb168, 0, none⟩ = some (.bool t162) := (blk_cell BK168.out 0).trans rfl
                have hcz32_1 : wc.cell? ⟨gb168, 1, none⟩ = some (.bool t163) := (blk_cell BK168.out 1).trans rfl
                have hcz32_2 : wc.cell? ⟨gb168, 2, none⟩ = some (.bool t164) := (blk_cell BK168.out 2).trans rfl
                have hcz32_3 : wc.cell? ⟨gb168, 3, none⟩ = some (.int .i64 t165) := (blk_cell BK168.out 3).trans rfl
                have hcz32_4 : wc.cell? ⟨gb168, 4, none⟩ = some (.bool t166) := (blk_cell BK168.out 4).trans rfl
                have hcz32_5 : wc.cell? ⟨gb168, 5, none⟩ = some (.bool true) := (blk_cell BK168.out 5).trans rfl
                have hfz32_0 := blk_frozen BK168.out 0
                have hfz32_1 := blk_frozen BK168.out 1
                have hfz32_2 := blk_frozen BK168.out 2
                have hfz32_3 := blk_frozen BK168.out 3
                have hfz32_4 := blk_frozen BK168.out 4
                have hfz32_5 := blk_frozen BK168.out 5
                have hcz33_0 : wc.cell? ⟨gb161, 0, none⟩ = some (.int .i64 a0_0) := (blk_cell BK161.out 0).trans rfl
                have hcz33_1 : wc.cell? ⟨gb161, 1, none⟩ = some (.int .i64 a0_1) := (blk_cell BK161.out 1).trans rfl
                have hcz33_2 : wc.cell? ⟨gb161, 2, none⟩ = some (.int .i64 a0_2) := (blk_cell BK161.out 2).trans rfl
                have hcz33_3 : wc.cell? ⟨gb161, 3, none⟩ = some (.int .i64 a0_3) := (blk_cell BK161.out 3).trans rfl
                have hcz33_4 : wc.cell? ⟨gb161, 4, none⟩ = some (.int .i32 a0_4) := (blk_cell BK161.out 4).trans rfl
                have hfz33_0 := blk_frozen BK161.out 0
                have hfz33_1 := blk_frozen BK161.out 1
                have hfz33_2 := blk_frozen BK161.out 2
                have hfz33_3 := blk_frozen BK161.out 3
                have hfz33_4 := blk_frozen BK161.out 4
                go_wp2_with (first | (go_at_call 40; (with_reducible refine (crucibleref02_reg.calls a0_1 t162 true _ A20.out).mono ?_); rintro e w' ⟨rfl, ⟨nd, rfl⟩⟩) | (go_at_call 40; (with_reducible refine (crucibleref02_reg.calls a0_2 t163 true _ A22.out).mono ?_); rintro e w' ⟨rfl, ⟨nd, rfl⟩⟩) | (go_at_call 40; (with_reducible refine (crucibleref02_reg.calls a0_3 t164 false _ A24.out).mono ?_); rintro e w' ⟨rfl, ⟨nd, rfl⟩⟩))
                go_ret
                exact ⟨by first | rfl | (simp [errW_none, errW_some] <;> rfl) | (simp [*, errW_none, errW_some] <;> rfl), by repeat (first | (with_reducible first | exact HB.out | apply below_alloc | apply pw_below_drewN | apply below_drew1 | refine below_set ?_ GE161.out | refine below_set ?_ GE168.out) | exact HB.out)⟩
            · replace c23 := Bool.eq_false_iff.mpr c23
              subst c23
              have H1 : (some false) = some r := by rw [if_neg (show ¬ (false = true) by decide)] at H; exact H
              clear H
              have H := H1
              clear H1
              obtain rfl := Option.some.inj H
              have hnb34 := NB168_161.out
              have hnc34 := NB161_168.out
              have hcz35_0 : wc.cell? ⟨gb168, 0, none⟩ = some (.bool t162) := (blk_cell BK168.out 0).trans rfl
              have hcz35_1 : wc.cell? ⟨gb168, 1, none⟩ = some (.bool t163) := (blk_cell BK168.out 1).trans rfl
              have hcz35_2 : wc.cell? ⟨gb168, 2, none⟩ = some (.bool t164) := (blk_cell BK168.out 2).trans rfl
              have hcz35_3 : wc.cell? ⟨gb168, 3, none⟩ = some (.int .i64 t165) := (blk_cell BK168.out 3).trans rfl
              have hcz35_4 : wc.cell? ⟨gb168, 4, none⟩ = some (.bool t166) := (blk_cell BK168.out 4).trans rfl
              have hcz35_5 : wc.cell? ⟨gb168, 5, none⟩ = some (.bool true) := (blk_cell BK168.out 5).trans rfl
              have hfz35_0 := blk_frozen BK168.out 0
              have hfz35_1 := blk_frozen BK168.out 1
              have hfz35_2 := blk_frozen BK168.out 2
              have hfz35_3 := blk_frozen BK168.out 3
              have hfz35_4 := blk_frozen BK168.out 4
              have hfz35_5 := blk_frozen BK168.out 5
              have hcz36_0 : wc.cell? ⟨gb161, 0, none⟩ = some (.int .i64 a0_0) := (blk_cell BK161.out 0).trans rfl
              have hcz36_1 : wc.cell? ⟨gb161, 1, none⟩ = some (.int .i64 a0_1) := (blk_cell BK161.out 1).trans rfl
              have hcz36_2 : wc.cell? ⟨gb161, 2, none⟩ = some (.int .i64 a0_2) := (blk_cell BK161.out 2).trans rfl
              have hcz36_3 : wc.cell? ⟨gb161, 3, none⟩ = some (.int .i64 a0_3) := (blk_cell BK161.out 3).trans rfl
              have hcz36_4 : wc.cell? ⟨gb161, 4, none⟩ = some (.int .i32 a0_4) := (blk_cell BK161.out 4).trans rfl
              have hfz36_0 := blk_frozen BK161.out 0
              have hfz36_1 := blk_frozen BK161.out 1
              have hfz36_2 := blk_frozen BK161.out 2
              have hfz36_3 := blk_frozen BK161.out 3
              have hfz36_4 := blk_frozen BK161.out 4
              go_wp2_with (first | (go_at_call 40; (with_reducible refine (crucibleref02_reg.calls a0_1 t162 true _ A20.out).mono ?_); rintro e w' ⟨rfl, ⟨nd, rfl⟩⟩) | (go_at_call 40; (with_reducible refine (crucibleref02_reg.calls a0_2 t163 false _ A22.out).mono ?_); rintro e w' ⟨rfl, ⟨nd, rfl⟩⟩))
              go_ret
              exact ⟨by first | rfl | (simp [errW_none, errW_some] <;> rfl) | (simp [*, errW_none, errW_some] <;> rfl), by repeat (first | (with_reducible first | exact HB.out | apply below_alloc | apply pw_below_drewN | apply below_drew1 | refine below_set ?_ GE161.out | refine below_set ?_ GE168.out) | exact HB.out)⟩
          · replace c21 := Bool.eq_false_iff.mpr c21
            subst c21
            have H1 : (some false) = some r := by rw [if_neg (show ¬ (false = true) by decide)] at H; exact H
            clear H
            have H := H1
            clear H1
            obtain rfl := Option.some.inj H
            have hnb37 := NB168_161.out
            have hnc37 := NB161_168.out
            have hcz38_0 : wc.cell? ⟨gb168, 0, none⟩ = some (.bool t162) := (blk_cell BK168.out 0).trans rfl
            have hcz38_1 : wc.cell? ⟨gb168, 1, none⟩ = some (.bool t163) := (blk_cell BK168.out 1).trans rfl
            have hcz38_2 : wc.cell? ⟨gb168, 2, none⟩ = some (.bool t164) := (blk_cell BK168.out 2).trans rfl
            have hcz38_3 : wc.cell? ⟨gb168, 3, none⟩ = some (.int .i64 t165) := (blk_cell BK168.out 3).trans rfl
            have hcz38_4 : wc.cell? ⟨gb168, 4, none⟩ = some (.bool t166) := (blk_cell BK168.out 4).trans rfl
            have hcz38_5 : wc.cell? ⟨gb168, 5, none⟩ = some (.bool true) := (blk_cell BK168.out 5).trans rfl
            have hfz38_0 := blk_frozen BK168.out 0
            have hfz38_1 := blk_frozen BK168.out 1
            have hfz38_2 := blk_frozen BK168.out 2
            have hfz38_3 := blk_frozen BK168.out 3
            have hfz38_4 := blk_frozen BK168.out 4
            have hfz38_5 := blk_frozen BK168.out 5
            have hcz39_0 : wc.cell? ⟨gb161, 0, none⟩ = some (.int .i64 a0_0) := (blk_cell BK161.out 0).trans rfl
            have hcz39_1 : wc.cell? ⟨gb161, 1, none⟩ = some (.int .i64 a0_1) := (blk_cell BK161.out 1).trans rfl
            have hcz39_2 : wc.cell? ⟨gb161, 2, none⟩ = some (.int .i64 a0_2) := (blk_cell BK161.out 2).trans rfl
            have hcz39_3 : wc.cell? ⟨gb161, 3, none⟩ = some (.int .i64 a0_3) := (blk_cell BK161.out 3).trans rfl
            have hcz39_4 : wc.cell? ⟨gb161, 4, none⟩ = some (.int .i32 a0_4) := (blk_cell BK161.out 4).trans rfl
            have hfz39_0 := blk_frozen BK161.out 0
            have hfz39_1 := blk_frozen BK161.out 1
            have hfz39_2 := blk_frozen BK161.out 2
            have hfz39_3 := blk_frozen BK161.out 3
            have hfz39_4 := blk_frozen BK161.out 4
            go_wp2_with (first | (go_at_call 40; (with_reducible refine (crucibleref02_reg.calls a0_1 t162 false _ A20.out).mono ?_); rintro e w' ⟨rfl, ⟨nd, rfl⟩⟩))
            go_ret
            exact ⟨by first | rfl | (simp [errW_none, errW_some] <;> rfl) | (simp [*, errW_none, errW_some] <;> rfl), by repeat (first | (with_reducible first | exact HB.out | apply below_alloc | apply pw_below_drewN | apply below_drew1 | refine below_set ?_ GE161.out | refine below_set ?_ GE168.out) | exact HB.out)⟩
        · replace c19 := Bool.eq_false_iff.mpr c19
          subst c19
          have H1 : (some false) = some r := by rw [if_neg (show ¬ (false = true) by decide)] at H; exact H
          clear H
          have H := H1
          clear H1
          obtain rfl := Option.some.inj H
          have hnb40 := NB168_161.out
          have hnc40 := NB161_168.out
          have hcz41_0 : wc.cell? ⟨gb168, 0, none⟩ = some (.bool t162) := (blk_cell BK168.out 0).trans rfl
          have hcz41_1 : wc.cell? ⟨gb168, 1, none⟩ = some (.bool t163) := (blk_cell BK168.out 1).trans rfl
          have hcz41_2 : wc.cell? ⟨gb168, 2, none⟩ = some (.bool t164) := (blk_cell BK168.out 2).trans rfl
          have hcz41_3 : wc.cell? ⟨gb168, 3, none⟩ = some (.int .i64 t165) := (blk_cell BK168.out 3).trans rfl
          have hcz41_4 : wc.cell? ⟨gb168, 4, none⟩ = some (.bool t166) := (blk_cell BK168.out 4).trans rfl
          have hcz41_5 : wc.cell? ⟨gb168, 5, none⟩ = some (.bool false) := (blk_cell BK168.out 5).trans rfl
          have hfz41_0 := blk_frozen BK168.out 0
          have hfz41_1 := blk_frozen BK168.out 1
          have hfz41_2 := blk_frozen BK168.out 2
          have hfz41_3 := blk_frozen BK168.out 3
          have hfz41_4 := blk_frozen BK168.out 4
          have hfz41_5 := blk_frozen BK168.out 5
          go_wp2
          go_ret
          exact ⟨by first | rfl | (simp [errW_none, errW_some] <;> rfl) | (simp [*, errW_none, errW_some] <;> rfl), by repeat (first | (with_reducible first | exact HB.out | apply below_alloc | apply pw_below_drewN | apply below_drew1 | refine below_set ?_ GE161.out | refine below_set ?_ GE168.out) | exact HB.out)⟩
def crucibleref06_line.f (k : Nat) (a0_0 : Int) (a0_1 : Int) (a0_2 : Int) (a0_3 : Int) (a0_4 : Int) (a0_5 : Int) (a0_6 : Int) : Option (Bool) := if a0_0 = 0 then (if a0_6 = 0 then ((crucibleref02_May.f k a0_1 a0_2 a0_3 a0_4 a0_5).bind fun t174 => (some t174)) else (if a0_1 = 39 then (if a0_6 > 0 then (if a0_5 = 0 then ((crucibleref02_May.f k a0_1 a0_2 a0_3 a0_4 a0_5).bind fun t175 => (some t175)) else (some false)) else (some false)) else (if a0_1 = 40 then (if a0_6 > 0 then (if a0_5 = 0 then ((crucibleref02_May.f k a0_1 a0_2 a0_3 a0_4 a0_5).bind fun t176 => (some t176)) else (some false)) else (some false)) else (if a0_1 = 41 then (if a0_6 > 0 then (if a0_5 = 0 then ((crucibleref02_May.f k a0_1 a0_2 a0_3 a0_4 a0_5).bind fun t177 => (some t177)) else (some false)) else (some false)) else (if a0_6 > 0 then (if a0_1 = 42 then (if a0_5 = 0 then ((crucibleref02_May.f k a0_1 a0_2 a0_3 a0_4 a0_5).bind fun t178 => (some t178)) else (some false)) else (some false)) else (some false)))))) else (if a0_0 > 0 then (if a0_6 = 0 then (some (a0_1 == 0 && (a0_2 == 0 && (a0_3 == 0 && (a0_4 == 0 && (a0_5 == 0)))))) else (some false)) else (some false))
set_option maxHeartbeats 8000000 in
set_option maxRecDepth 100000 in
theorem crucibleref06_line.calls (k : Nat) (a0_0 : Int) (a0_1 : Int) (a0_2 : Int) (a0_3 : Int) (a0_4 : Int) (a0_5 : Int) (a0_6 : Int) (r : Bool) (w : World) (h : crucibleref06_line.f k a0_0 a0_1 a0_2 a0_3 a0_4 a0_5 a0_6 = some r) :
    Calls Try.prog 24 #[.agg #[.int .i64 a0_0, .int .i64 a0_1, .int .i64 a0_2, .int .i64 a0_3, .int .i64 a0_4, .int .i32 a0_5, .int .i64 a0_6]] w fun e w' => e = .returned (.bool r) ∧ Below w.heap.size w w' := by
  have hu37 := Try.underlying37
  have hu24 := Try.underlying24
  have HB := Aside0.mk (Below.refl w.heap.size w)
  have H : (if a0_0 = 0 then (if a0_6 = 0 then ((crucibleref02_May.f k a0_1 a0_2 a0_3 a0_4 a0_5).bind fun t174 => (some t174)) else (if a0_1 = 39 then (if a0_6 > 0 then (if a0_5 = 0 then ((crucibleref02_May.f k a0_1 a0_2 a0_3 a0_4 a0_5).bind fun t175 => (some t175)) else (some false)) else (some false)) else (if a0_1 = 40 then (if a0_6 > 0 then (if a0_5 = 0 then ((crucibleref02_May.f k a0_1 a0_2 a0_3 a0_4 a0_5).bind fun t176 => (some t176)) else (some false)) else (some false)) else (if a0_1 = 41 then (if a0_6 > 0 then (if a0_5 = 0 then ((crucibleref02_May.f k a0_1 a0_2 a0_3 a0_4 a0_5).bind fun t177 => (some t177)) else (some false)) else (some false)) else (if a0_6 > 0 then (if a0_1 = 42 then (if a0_5 = 0 then ((crucibleref02_May.f k a0_1 a0_2 a0_3 a0_4 a0_5).bind fun t178 => (some t178)) else (some false)) else (some false)) else (some false)))))) else (if a0_0 > 0 then (if a0_6 = 0 then (some (a0_1 == 0 && (a0_2 == 0 && (a0_3 == 0 && (a0_4 == 0 && (a0_5 == 0)))))) else (some false)) else (some false))) = some r := h
  clear h
  by_cases c2 : a0_0 = 0
  · rw [if_pos c2] at H
    have c2b0 : (a0_0 == 0) = true := beq_iff_eq.mpr c2
    have c2b1 : (a0_0 != 0) = false := bne_eq_false_iff_eq.mpr c2
    clear c2
    by_cases c3 : a0_6 = 0
    · rw [if_pos c3] at H
      have c3b0 : (a0_6 == 0) = true := beq_iff_eq.mpr c3
      have c3b1 : (a0_6 != 0) = false := bne_eq_false_iff_eq.mpr c3
      clear c3
      replace H := Option.bind_eq_some_iff.mp H
      obtain ⟨t174, A40, H⟩ := H
      replace H : (some t174) = some r := H
      have A4 := Aside0.mk A40
      clear A40
      obtain rfl := Option.some.inj H
      go_enter Try.func24, Try.ntmps24
      go_wp2_with (first | ((with_reducible refine gate_dst (N := 1) rfl ?_); refine box_event ?hg (N := 1) ?hd (cs := #[.int .i64 a0_0, .int .i64 a0_1, .int .i64 a0_2, .int .i64 a0_3, .int .i64 a0_4, .int .i32 a0_5, .int .i64 a0_6]) (t := 37) ?hr ?_; (case hd => rfl); (case hg => rfl); (case hr => first | (go_simp; done) | (go_simp; rfl)); intro gb173 hg w5 hbox hb; have n0_ := Aside0.mk (below_step (by repeat (first | (with_reducible first | exact HB.out | apply below_alloc | apply pw_below_drewN | apply below_drew1) | exact HB.out)) hb); have n1_ := Aside0.mk (hbox); have n2_ := Aside0.mk ((by rw [hg]; exact (below_size (by repeat (first | (with_reducible first | exact HB.out | apply below_alloc | apply pw_below_drewN | apply below_drew1) | exact HB.out))) : w.heap.size ≤ gb173)); have n3_ := Aside0.mk ((by rw [hg]; exact (below_size (by repeat (first | (with_reducible first | exact HB.out | apply below_alloc | apply pw_below_drewN | apply below_drew1) | exact HB.out))) : w.heap.size ≤ gb173)); clear HB; have HB := n0_; have BK173 := n1_; have GW173 := n2_; have GE173 := n3_; clear n0_ n1_ n2_ n3_; clear hb hbox hg; have hcz6_0 : w5.cell? ⟨gb173, 0, none⟩ = some (.int .i64 a0_0) := (blk_cell BK173.out 0).trans rfl; have hcz6_1 : w5.cell? ⟨gb173, 1, none⟩ = some (.int .i64 a0_1) := (blk_cell BK173.out 1).trans rfl; have hcz6_2 : w5.cell? ⟨gb173, 2, none⟩ = some (.int .i64 a0_2) := (blk_cell BK173.out 2).trans rfl; have hcz6_3 : w5.cell? ⟨gb173, 3, none⟩ = some (.int .i64 a0_3) := (blk_cell BK173.out 3).trans rfl; have hcz6_4 : w5.cell? ⟨gb173, 4, none⟩ = some (.int .i64 a0_4) := (blk_cell BK173.out 4).trans rfl; have hcz6_5 : w5.cell? ⟨gb173, 5, none⟩ = some (.int .i32 a0_5) := (blk_cell BK173.out 5).trans rfl; have hcz6_6 : w5.cell? ⟨gb173, 6, none⟩ = some (.int .i64 a0_6) := (blk_cell BK173.out 6).trans rfl; have hfz6_0 := blk_frozen BK173.out 0; have hfz6_1 := blk_frozen BK173.out 1; have hfz6_2 := blk_frozen BK173.out 2; have hfz6_3 := blk_frozen BK173.out 3; have hfz6_4 := blk_frozen BK173.out 4; have hfz6_5 := blk_frozen BK173.out 5; have hfz6_6 := blk_frozen BK173.out 6) | ((with_reducible refine gate_callee (f := 34) rfl ?_); refine goesL_ (some 27) rfl rfl Try.func34 (by kernel_rfl) rfl #[.agg #[.int .i64 a0_1, .int .i64 a0_2, .int .i64 a0_3, .int .i64 a0_4, .int .i32 a0_5]] rfl (by (try simp only [List.map_toArray, List.map_cons, List.map_nil]); first | done | rfl | (simp only [List.length_drop, List.length_take]; rfl)) ?_; (with_reducible refine (crucibleref02_May.calls k a0_1 a0_2 a0_3 a0_4 a0_5 t174 _ A4.out).mono ?_); rintro e w7 ⟨rfl, hb⟩; refine ⟨_, rfl, ?_⟩; have n0_ := Aside0.mk (blk_below (g := gb173) (o := .cells #[.int .i64 a0_0, .int .i64 a0_1, .int .i64 a0_2, .int .i64 a0_3, .int .i64 a0_4, .int .i32 a0_5, .int .i64 a0_6] 37 (0, 0)) (by (with_reducible repeat (first | refine blk_drewN ?_ _ | refine blk_drew ?_ | refine blk_alloc ?_ _)); exact BK173.out) hb); have n1_ := Aside0.mk (below_step (by repeat (first | (with_reducible first | exact HB.out | apply below_alloc | apply pw_below_drewN | apply below_drew1 | refine below_set ?_ GE173.out) | exact HB.out)) hb); clear BK173; clear HB; have BK173 := n0_; have HB := n1_; clear n0_ n1_; (try clear hb); (try clear hb2); (try clear hk); (try clear hi)))
      go_ret
      exact ⟨by first | rfl | (simp [errW_none, errW_some] <;> rfl) | (simp [*, errW_none, errW_some] <;> rfl), by repeat (first | (with_reducible first | exact HB.out | apply below_alloc | apply pw_below_drewN | apply below_drew1 | refine below_set ?_ GE173.out) | exact HB.out)⟩
    · rw [if_neg c3] at H
      have c3b0 : (a0_6 == 0) = false := beq_eq_false_iff_ne.mpr c3
      have c3b1 : (a0_6 != 0) = true := bne_iff_ne.mpr c3
      by_cases c8 : a0_1 = 39
      · rw [if_pos c8] at H
        have c8b0 : (a0_1 == 39) = true := beq_iff_eq.mpr c8
        have c8b1 : (a0_1 != 39) = false := bne_eq_false_iff_eq.mpr c8
        clear c8
        by_cases c9 : a0_6 > 0
        · rw [if_pos c9] at H
          have c9b0 : decide (0 < a0_6) = true := decide_eq_true c9
          clear c9
          by_cases c10 : a0_5 = 0
          · rw [if_pos c10] at H
            have c10b0 : (a0_5 == 0) = true := beq_iff_eq.mpr c10
            have c10b1 : (a0_5 != 0) = false := bne_eq_false_iff_eq.mpr c10
            clear c10
            replace H := Option.bind_eq_some_iff.mp H
            obtain ⟨t175, A110, H⟩ := H
            replace H : (some t175) = some r := H
            have A11 := Aside0.mk A110
            clear A110
            obtain rfl := Option.some.inj H
            go_enter Try.func24, Try.ntmps24
            go_wp2_with (first | ((with_reducible refine gate_dst (N := 1) rfl ?_); refine box_event ?hg (N := 1) ?hd (cs := #[.int .i64 a0_0, .int .i64 a0_1, .int .i64 a0_2, .int .i64 a0_3, .int .i64 a0_4, .int .i32 a0_5, .int .i64 a0_6]) (t := 37) ?hr ?_; (case hd => rfl); (case hg => rfl); (case hr => first | (go_simp; done) | (go_simp; rfl)); intro gb173 hg w12 hbox hb; have n0_ := Aside0.mk (below_step (by repeat (first | (with_reducible first | exact HB.out | apply below_alloc | apply pw_below_drewN | apply below_drew1) | exact HB.out)) hb); have n1_ := Aside0.mk (hbox); have n2_ := Aside0.mk ((by rw [hg]; exact (below_size (by repeat (first | (with_reducible first | exact HB.out | apply below_alloc | apply pw_below_drewN | apply below_drew1) | exact HB.out))) : w.heap.size ≤ gb173)); have n3_ := Aside0.mk ((by rw [hg]; exact (below_size (by repeat (first | (with_reducible first | exact HB.out | apply below_alloc | apply pw_below_drewN | apply below_drew1) | exact HB.out))) : w.heap.size ≤ gb173)); clear HB; have HB := n0_; have BK173 := n1_; have GW173 := n2_; have GE173 := n3_; clear n0_ n1_ n2_ n3_; clear hb hbox hg; have hcz13_0 : w12.cell? ⟨gb173, 0, none⟩ = some (.int .i64 a0_0) := (blk_cell BK173.out 0).trans rfl; have hcz13_1 : w12.cell? ⟨gb173, 1, none⟩ = some (.int .i64 a0_1) := (blk_cell BK173.out 1).trans rfl; have hcz13_2 : w12.cell? ⟨gb173, 2, none⟩ = some (.int .i64 a0_2) := (blk_cell BK173.out 2).trans rfl; have hcz13_3 : w12.cell? ⟨gb173, 3, none⟩ = some (.int .i64 a0_3) := (blk_cell BK173.out 3).trans rfl; have hcz13_4 : w12.cell? ⟨gb173, 4, none⟩ = some (.int .i64 a0_4) := (blk_cell BK173.out 4).trans rfl; have hcz13_5 : w12.cell? ⟨gb173, 5, none⟩ = some (.int .i32 a0_5) := (blk_cell BK173.out 5).trans rfl; have hcz13_6 : w12.cell? ⟨gb173, 6, none⟩ = some (.int .i64 a0_6) := (blk_cell BK173.out 6).trans rfl; have hfz13_0 := blk_frozen BK173.out 0; have hfz13_1 := blk_frozen BK173.out 1; have hfz13_2 := blk_frozen BK173.out 2; have hfz13_3 := blk_frozen BK173.out 3; have hfz13_4 := blk_frozen BK173.out 4; have hfz13_5 := blk_frozen BK173.out 5; have hfz13_6 := blk_frozen BK173.out 6) | (go_at_call 34; (with_reducible refine (crucibleref02_May.calls k a0_1 a0_2 a0_3 a0_4 a0_5 t175 _ A11.out).mono ?_); rintro e w14 ⟨rfl, hb⟩; have n0_ := Aside0.mk (blk_below (g := gb173) (o := .cells #[.int .i64 a0_0, .int .i64 a0_1, .int .i64 a0_2, .int .i64 a0_3, .int .i64 a0_4, .int .i32 a0_5, .int .i64 a0_6] 37 (0, 0)) (by (with_reducible repeat (first | refine blk_drewN ?_ _ | refine blk_drew ?_ | refine blk_alloc ?_ _)); exact BK173.out) hb); have n1_ := Aside0.mk (below_step (by repeat (first | (with_reducible first | exact HB.out | apply below_alloc | apply pw_below_drewN | apply below_drew1 | refine below_set ?_ GE173.out) | exact HB.out)) hb); clear BK173; clear HB; have BK173 := n0_; have HB := n1_; clear n0_ n1_; (try clear hb); (try clear hb2); (try clear hk); (try clear hi)))
            go_ret
            exact ⟨by first | rfl | (simp [errW_none, errW_some] <;> rfl) | (simp [*, errW_none, errW_some] <;> rfl), by repeat (first | (with_reducible first | exact HB.out | apply below_alloc | apply pw_below_drewN | apply below_drew1 | refine below_set ?_ GE173.out) | exact HB.out)⟩
          · rw [if_neg c10] at H
            have c10b0 : (a0_5 == 0) = false := beq_eq_false_iff_ne.mpr c10
            have c10b1 : (a0_5 != 0) = true := bne_iff_ne.mpr c10
            obtain rfl := Option.some.inj H
            go_enter Try.func24, Try.ntmps24
            go_wp2_with (first | ((with_reducible refine gate_dst (N := 1) rfl ?_); refine box_event ?hg (N := 1) ?hd (cs := #[.int .i64 a0_0, .int .i64 a0_1, .int .i64 a0_2, .int .i64 a0_3, .int .i64 a0_4, .int .i32 a0_5, .int .i64 a0_6]) (t := 37) ?hr ?_; (case hd => rfl); (case hg => rfl); (case hr => first | (go_simp; done) | (go_simp; rfl)); intro gb173 hg w15 hbox hb; have n0_ := Aside0.mk (below_step (by repeat (first | (with_reducible first | exact HB.out | apply below_alloc | apply pw_below_drewN | apply below_drew1) | exact HB.out)) hb); have n1_ := Aside0.mk (hbox); have n2_ := Aside0.mk ((by rw [hg]; exact (below_size (by repeat (first | (with_reducible first | exact HB.out | apply below_alloc | apply pw_below_drewN | apply below_drew1) | exact HB.out))) : w.heap.size ≤ gb173)); have n3_ := Aside0.mk ((by rw [hg]; exact (below_size (by repeat (first | (with_reducible first | exact HB.out | apply below_alloc | apply pw_below_drewN | apply below_drew1) | exact HB.out))) : w.heap.size ≤ gb173)); clear HB; have HB := n0_; have BK173 := n1_; have GW173 := n2_; have GE173 := n3_; clear n0_ n1_ n2_ n3_; clear hb hbox hg; have hcz16_0 : w15.cell? ⟨gb173, 0, none⟩ = some (.int .i64 a0_0) := (blk_cell BK173.out 0).trans rfl; have hcz16_1 : w15.cell? ⟨gb173, 1, none⟩ = some (.int .i64 a0_1) := (blk_cell BK173.out 1).trans rfl; have hcz16_2 : w15.cell? ⟨gb173, 2, none⟩ = some (.int .i64 a0_2) := (blk_cell BK173.out 2).trans rfl; have hcz16_3 : w15.cell? ⟨gb173, 3, none⟩ = some (.int .i64 a0_3) := (blk_cell BK173.out 3).trans rfl; have hcz16_4 : w15.cell? ⟨gb173, 4, none⟩ = some (.int .i64 a0_4) := (blk_cell BK173.out 4).trans rfl; have hcz16_5 : w15.cell? ⟨gb173, 5, none⟩ = some (.int .i32 a0_5) := (blk_cell BK173.out 5).trans rfl; have hcz16_6 : w15.cell? ⟨gb173, 6, none⟩ = some (.int .i64 a0_6) := (blk_cell BK173.out 6).trans rfl; have hfz16_0 := blk_frozen BK173.out 0; have hfz16_1 := blk_frozen BK173.out 1; have hfz16_2 := blk_frozen BK173.out 2; have hfz16_3 := blk_frozen BK173.out 3; have hfz16_4 := blk_frozen BK173.out 4; have hfz16_5 := blk_frozen BK173.out 5; have hfz16_6 := blk_frozen BK173.out 6))
            go_ret
            exact ⟨by first | rfl | (simp [errW_none, errW_some] <;> rfl) | (simp [*, errW_none, errW_some] <;> rfl), by repeat (first | (with_reducible first | exact HB.out | apply below_alloc | apply pw_below_drewN | apply below_drew1 | refine below_set ?_ GE173.out) | exact HB.out)⟩
        · rw [if_neg c9] at H
          have c9b0 : decide (0 < a0_6) = false := decide_eq_false c9
          clear c9
          obtain rfl := Option.some.inj H
          go_enter Try.func24, Try.ntmps24
          go_wp2_with (first | ((with_reducible refine gate_dst (N := 1) rfl ?_); refine box_event ?hg (N := 1) ?hd (cs := #[.int .i64 a0_0, .int .i64 a0_1, .int .i64 a0_2, .int .i64 a0_3, .int .i64 a0_4, .int .i32 a0_5, .int .i64 a0_6]) (t := 37) ?hr ?_; (case hd => rfl); (case hg => rfl); (case hr => first | (go_simp; done) | (go_simp; rfl)); intro gb173 hg w17 hbox hb; have n0_ := Aside0.mk (below_step (by repeat (first | (with_reducible first | exact HB.out | apply below_alloc | apply pw_below_drewN | apply below_drew1) | exact HB.out)) hb); have n1_ := Aside0.mk (hbox); have n2_ := Aside0.mk ((by rw [hg]; exact (below_size (by repeat (first | (with_reducible first | exact HB.out | apply below_alloc | apply pw_below_drewN | apply below_drew1) | exact HB.out))) : w.heap.size ≤ gb173)); have n3_ := Aside0.mk ((by rw [hg]; exact (below_size (by repeat (first | (with_reducible first | exact HB.out | apply below_alloc | apply pw_below_drewN | apply below_drew1) | exact HB.out))) : w.heap.size ≤ gb173)); clear HB; have HB := n0_; have BK173 := n1_; have GW173 := n2_; have GE173 := n3_; clear n0_ n1_ n2_ n3_; clear hb hbox hg; have hcz18_0 : w17.cell? ⟨gb173, 0, none⟩ = some (.int .i64 a0_0) := (blk_cell BK173.out 0).trans rfl; have hcz18_1 : w17.cell? ⟨gb173, 1, none⟩ = some (.int .i64 a0_1) := (blk_cell BK173.out 1).trans rfl; have hcz18_2 : w17.cell? ⟨gb173, 2, none⟩ = some (.int .i64 a0_2) := (blk_cell BK173.out 2).trans rfl; have hcz18_3 : w17.cell? ⟨gb173, 3, none⟩ = some (.int .i64 a0_3) := (blk_cell BK173.out 3).trans rfl; have hcz18_4 : w17.cell? ⟨gb173, 4, none⟩ = some (.int .i64 a0_4) := (blk_cell BK173.out 4).trans rfl; have hcz18_5 : w17.cell? ⟨gb173, 5, none⟩ = some (.int .i32 a0_5) := (blk_cell BK173.out 5).trans rfl; have hcz18_6 : w17.cell? ⟨gb173, 6, none⟩ = some (.int .i64 a0_6) := (blk_cell BK173.out 6).trans rfl; have hfz18_0 := blk_frozen BK173.out 0; have hfz18_1 := blk_frozen BK173.out 1; have hfz18_2 := blk_frozen BK173.out 2; have hfz18_3 := blk_frozen BK173.out 3; have hfz18_4 := blk_frozen BK173.out 4; have hfz18_5 := blk_frozen BK173.out 5; have hfz18_6 := blk_frozen BK173.out 6))
          go_ret
          exact ⟨by first | rfl | (simp [errW_none, errW_some] <;> rfl) | (simp [*, errW_none, errW_some] <;> rfl), by repeat (first | (with_reducible first | exact HB.out | apply below_alloc | apply pw_below_drewN | apply below_drew1 | refine below_set ?_ GE173.out) | exact HB.out)⟩
      · rw [if_neg c8] at H
        have c8b0 : (a0_1 == 39) = false := beq_eq_false_iff_ne.mpr c8
        have c8b1 : (a0_1 != 39) = true := bne_iff_ne.mpr c8
        by_cases c19 : a0_1 = 40
        · rw [if_pos c19] at H
          have c19b0 : (a0_1 == 40) = true := beq_iff_eq.mpr c19
          have c19b1 : (a0_1 != 40) = false := bne_eq_false_iff_eq.mpr c19
          clear c19
          by_cases c20 : a0_6 > 0
          · rw [if_pos c20] at H
            have c20b0 : decide (0 < a0_6) = true := decide_eq_true c20
            clear c20
            by_cases c21 : a0_5 = 0
            · rw [if_pos c21] at H
              have c21b0 : (a0_5 == 0) = true := beq_iff_eq.mpr c21
              have c21b1 : (a0_5 != 0) = false := bne_eq_false_iff_eq.mpr c21
              clear c21
              replace H := Option.bind_eq_some_iff.mp H
              obtain ⟨t176, A220, H⟩ := H
              replace H : (some t176) = some r := H
              have A22 := Aside0.mk A220
              clear A220
              obtain rfl := Option.some.inj H
              go_enter Try.func24, Try.ntmps24
              go_wp2_with (first | ((with_reducible refine gate_dst (N := 1) rfl ?_); refine box_event ?hg (N := 1) ?hd (cs := #[.int .i64 a0_0, .int .i64 a0_1, .int .i64 a0_2, .int .i64 a0_3, .int .i64 a0_4, .int .i32 a0_5, .int .i64 a0_6]) (t := 37) ?hr ?_; (case hd => rfl); (case hg => rfl); (case hr => first | (go_simp; done) | (go_simp; rfl)); intro gb173 hg w23 hbox hb; have n0_ := Aside0.mk (below_step (by repeat (first | (with_reducible first | exact HB.out | apply below_alloc | apply pw_below_drewN | apply below_drew1) | exact HB.out)) hb); have n1_ := Aside0.mk (hbox); have n2_ := Aside0.mk ((by rw [hg]; exact (below_size (by repeat (first | (with_reducible first | exact HB.out | apply below_alloc | apply pw_below_drewN | apply below_drew1) | exact HB.out))) : w.heap.size ≤ gb173)); have n3_ := Aside0.mk ((by rw [hg]; exact (below_size (by repeat (first | (with_reducible first | exact HB.out | apply below_alloc | apply pw_below_drewN | apply below_drew1) | exact HB.out))) : w.heap.size ≤ gb173)); clear HB; have HB := n0_; have BK173 := n1_; have GW173 := n2_; have GE173 := n3_; clear n0_ n1_ n2_ n3_; clear hb hbox hg; have hcz24_0 : w23.cell? ⟨gb173, 0, none⟩ = some (.int .i64 a0_0) := (blk_cell BK173.out 0).trans rfl; have hcz24_1 : w23.cell? ⟨gb173, 1, none⟩ = some (.int .i64 a0_1) := (blk_cell BK173.out 1).trans rfl; have hcz24_2 : w23.cell? ⟨gb173, 2, none⟩ = some (.int .i64 a0_2) := (blk_cell BK173.out 2).trans rfl; have hcz24_3 : w23.cell? ⟨gb173, 3, none⟩ = some (.int .i64 a0_3) := (blk_cell BK173.out 3).trans rfl; have hcz24_4 : w23.cell? ⟨gb173, 4, none⟩ = some (.int .i64 a0_4) := (blk_cell BK173.out 4).trans rfl; have hcz24_5 : w23.cell? ⟨gb173, 5, none⟩ = some (.int .i32 a0_5) := (blk_cell BK173.out 5).trans rfl; have hcz24_6 : w23.cell? ⟨gb173, 6, none⟩ = some (.int .i64 a0_6) := (blk_cell BK173.out 6).trans rfl; have hfz24_0 := blk_frozen BK173.out 0; have hfz24_1 := blk_frozen BK173.out 1; have hfz24_2 := blk_frozen BK173.out 2; have hfz24_3 := blk_frozen BK173.out 3; have hfz24_4 := blk_frozen BK173.out 4; have hfz24_5 := blk_frozen BK173.out 5; have hfz24_6 := blk_frozen BK173.out 6) | (go_at_call 34; (with_reducible refine (crucibleref02_May.calls k a0_1 a0_2 a0_3 a0_4 a0_5 t176 _ A22.out).mono ?_); rintro e w25 ⟨rfl, hb⟩; have n0_ := Aside0.mk (blk_below (g := gb173) (o := .cells #[.int .i64 a0_0, .int .i64 a0_1, .int .i64 a0_2, .int .i64 a0_3, .int .i64 a0_4, .int .i32 a0_5, .int .i64 a0_6] 37 (0, 0)) (by (with_reducible repeat (first | refine blk_drewN ?_ _ | refine blk_drew ?_ | refine blk_alloc ?_ _)); exact BK173.out) hb); have n1_ := Aside0.mk (below_step (by repeat (first | (with_reducible first | exact HB.out | apply below_alloc | apply pw_below_drewN | apply below_drew1 | refine below_set ?_ GE173.out) | exact HB.out)) hb); clear BK173; clear HB; have BK173 := n0_; have HB := n1_; clear n0_ n1_; (try clear hb); (try clear hb2); (try clear hk); (try clear hi)))
              go_ret
              exact ⟨by first | rfl | (simp [errW_none, errW_some] <;> rfl) | (simp [*, errW_none, errW_some] <;> rfl), by repeat (first | (with_reducible first | exact HB.out | apply below_alloc | apply pw_below_drewN | apply below_drew1 | refine below_set ?_ GE173.out) | exact HB.out)⟩
            · rw [if_neg c21] at H
              have c21b0 : (a0_5 == 0) = false := beq_eq_false_iff_ne.mpr c21
              have c21b1 : (a0_5 != 0) = true := bne_iff_ne.mpr c21
              obtain rfl := Option.some.inj H
              go_enter Try.func24, Try.ntmps24
              go_wp2_with (first | ((with_reducible refine gate_dst (N := 1) rfl ?_); refine box_event ?hg (N := 1) ?hd (cs := #[.int .i64 a0_0, .int .i64 a0_1, .int .i64 a0_2, .int .i64 a0_3, .int .i64 a0_4, .int .i32 a0_5, .int .i64 a0_6]) (t := 37) ?hr ?_; (case hd => rfl); (case hg => rfl); (case hr => first | (go_simp; done) | (go_simp; rfl)); intro gb173 hg w26 hbox hb; have n0_ := Aside0.mk (below_step (by repeat (first | (with_reducible first | exact HB.out | apply below_alloc | apply pw_below_drewN | apply below_drew1) | exact HB.out)) hb); have n1_ := Aside0.mk (hbox); have n2_ := Aside0.mk ((by rw [hg]; exact (below_size (by repeat (first | (with_reducible first | exact HB.out | apply below_alloc | apply pw_below_drewN | apply below_drew1) | exact HB.out))) : w.heap.size ≤ gb173)); have n3_ := Aside0.mk ((by rw [hg]; exact (below_size (by repeat (first | (with_reducible first | exact HB.out | apply below_alloc | apply pw_below_drewN | apply below_drew1) | exact HB.out))) : w.heap.size ≤ gb173)); clear HB; have HB := n0_; have BK173 := n1_; have GW173 := n2_; have GE173 := n3_; clear n0_ n1_ n2_ n3_; clear hb hbox hg; have hcz27_0 : w26.cell? ⟨gb173, 0, none⟩ = some (.int .i64 a0_0) := (blk_cell BK173.out 0).trans rfl; have hcz27_1 : w26.cell? ⟨gb173, 1, none⟩ = some (.int .i64 a0_1) := (blk_cell BK173.out 1).trans rfl; have hcz27_2 : w26.cell? ⟨gb173, 2, none⟩ = some (.int .i64 a0_2) := (blk_cell BK173.out 2).trans rfl; have hcz27_3 : w26.cell? ⟨gb173, 3, none⟩ = some (.int .i64 a0_3) := (blk_cell BK173.out 3).trans rfl; have hcz27_4 : w26.cell? ⟨gb173, 4, none⟩ = some (.int .i64 a0_4) := (blk_cell BK173.out 4).trans rfl; have hcz27_5 : w26.cell? ⟨gb173, 5, none⟩ = some (.int .i32 a0_5) := (blk_cell BK173.out 5).trans rfl; have hcz27_6 : w26.cell? ⟨gb173, 6, none⟩ = some (.int .i64 a0_6) := (blk_cell BK173.out 6).trans rfl; have hfz27_0 := blk_frozen BK173.out 0; have hfz27_1 := blk_frozen BK173.out 1; have hfz27_2 := blk_frozen BK173.out 2; have hfz27_3 := blk_frozen BK173.out 3; have hfz27_4 := blk_frozen BK173.out 4; have hfz27_5 := blk_frozen BK173.out 5; have hfz27_6 := blk_frozen BK173.out 6))
              go_ret
              exact ⟨by first | rfl | (simp [errW_none, errW_some] <;> rfl) | (simp [*, errW_none, errW_some] <;> rfl), by repeat (first | (with_reducible first | exact HB.out | apply below_alloc | apply pw_below_drewN | apply below_drew1 | refine below_set ?_ GE173.out) | exact HB.out)⟩
          · rw [if_neg c20] at H
            have c20b0 : decide (0 < a0_6) = false := decide_eq_false c20
            clear c20
            obtain rfl := Option.some.inj H
            go_enter Try.func24, Try.ntmps24
            go_wp2_with (first | ((with_reducible refine gate_dst (N := 1) rfl ?_); refine box_event ?hg (N := 1) ?hd (cs := #[.int .i64 a0_0, .int .i64 a0_1, .int .i64 a0_2, .int .i64 a0_3, .int .i64 a0_4, .int .i32 a0_5, .int .i64 a0_6]) (t := 37) ?hr ?_; (case hd => rfl); (case hg => rfl); (case hr => first | (go_simp; done) | (go_simp; rfl)); intro gb173 hg w28 hbox hb; have n0_ := Aside0.mk (below_step (by repeat (first | (with_reducible first | exact HB.out | apply below_alloc | apply pw_below_drewN | apply below_drew1) | exact HB.out)) hb); have n1_ := Aside0.mk (hbox); have n2_ := Aside0.mk ((by rw [hg]; exact (below_size (by repeat (first | (with_reducible first | exact HB.out | apply below_alloc | apply pw_below_drewN | apply below_drew1) | exact HB.out))) : w.heap.size ≤ gb173)); have n3_ := Aside0.mk ((by rw [hg]; exact (below_size (by repeat (first | (with_reducible first | exact HB.out | apply below_alloc | apply pw_below_drewN | apply below_drew1) | exact HB.out))) : w.heap.size ≤ gb173)); clear HB; have HB := n0_; have BK173 := n1_; have GW173 := n2_; have GE173 := n3_; clear n0_ n1_ n2_ n3_; clear hb hbox hg; have hcz29_0 : w28.cell? ⟨gb173, 0, none⟩ = some (.int .i64 a0_0) := (blk_cell BK173.out 0).trans rfl; have hcz29_1 : w28.cell? ⟨gb173, 1, none⟩ = some (.int .i64 a0_1) := (blk_cell BK173.out 1).trans rfl; have hcz29_2 : w28.cell? ⟨gb173, 2, none⟩ = some (.int .i64 a0_2) := (blk_cell BK173.out 2).trans rfl; have hcz29_3 : w28.cell? ⟨gb173, 3, none⟩ = some (.int .i64 a0_3) := (blk_cell BK173.out 3).trans rfl; have hcz29_4 : w28.cell? ⟨gb173, 4, none⟩ = some (.int .i64 a0_4) := (blk_cell BK173.out 4).trans rfl; have hcz29_5 : w28.cell? ⟨gb173, 5, none⟩ = some (.int .i32 a0_5) := (blk_cell BK173.out 5).trans rfl; have hcz29_6 : w28.cell? ⟨gb173, 6, none⟩ = some (.int .i64 a0_6) := (blk_cell BK173.out 6).trans rfl; have hfz29_0 := blk_frozen BK173.out 0; have hfz29_1 := blk_frozen BK173.out 1; have hfz29_2 := blk_frozen BK173.out 2; have hfz29_3 := blk_frozen BK173.out 3; have hfz29_4 := blk_frozen BK173.out 4; have hfz29_5 := blk_frozen BK173.out 5; have hfz29_6 := blk_frozen BK173.out 6))
            go_ret
            exact ⟨by first | rfl | (simp [errW_none, errW_some] <;> rfl) | (simp [*, errW_none, errW_some] <;> rfl), by repeat (first | (with_reducible first | exact HB.out | apply below_alloc | apply pw_below_drewN | apply below_drew1 | refine below_set ?_ GE173.out) | exact HB.out)⟩
        · rw [if_neg c19] at H
          have c19b0 : (a0_1 == 40) = false := beq_eq_false_iff_ne.mpr c19
          have c19b1 : (a0_1 != 40) = true := bne_iff_ne.mpr c19
          by_cases c30 : a0_1 = 41
          · rw [if_pos c30] at H
            have c30b0 : (a0_1 == 41) = true := beq_iff_eq.mpr c30
            have c30b1 : (a0_1 != 41) = false := bne_eq_false_iff_eq.mpr c30
            clear c30
            by_cases c31 : a0_6 > 0
            · rw [if_pos c31] at H
              have c31b0 : decide (0 < a0_6) = true := decide_eq_true c31
              clear c31
              by_cases c32 : a0_5 = 0
              · rw [if_pos c32] at H
                have c32b0 : (a0_5 == 0) = true := beq_iff_eq.mpr c32
                have c32b1 : (a0_5 != 0) = false := bne_eq_false_iff_eq.mpr c32
                clear c32
                replace H := Option.bind_eq_some_iff.mp H
                obtain ⟨t177, A330, H⟩ := H
                replace H : (some t177) = some r := H
                have A33 := Aside0.mk A330
                clear A330
                obtain rfl := Option.some.inj H
                go_enter Try.func24, Try.ntmps24
                go_wp2_with (first | ((with_reducible refine gate_dst (N := 1) rfl ?_); refine box_event ?hg (N := 1) ?hd (cs := #[.int .i64 a0_0, .int .i64 a0_1, .int .i64 a0_2, .int .i64 a0_3, .int .i64 a0_4, .int .i32 a0_5, .int .i64 a0_6]) (t := 37) ?hr ?_; (case hd => rfl); (case hg => rfl); (case hr => first | (go_simp; done) | (go_simp; rfl)); intro gb173 hg w34 hbox hb; have n0_ := Aside0.mk (below_step (by repeat (first | (with_reducible first | exact HB.out | apply below_alloc | apply pw_below_drewN | apply below_drew1) | exact HB.out)) hb); have n1_ := Aside0.mk (hbox); have n2_ := Aside0.mk ((by rw [hg]; exact (below_size (by repeat (first | (with_reducible first | exact HB.out | apply below_alloc | apply pw_below_drewN | apply below_drew1) | exact HB.out))) : w.heap.size ≤ gb173)); have n3_ := Aside0.mk ((by rw [hg]; exact (below_size (by repeat (first | (with_reducible first | exact HB.out | apply below_alloc | apply pw_below_drewN | apply below_drew1) | exact HB.out))) : w.heap.size ≤ gb173)); clear HB; have HB := n0_; have BK173 := n1_; have GW173 := n2_; have GE173 := n3_; clear n0_ n1_ n2_ n3_; clear hb hbox hg; have hcz35_0 : w34.cell? ⟨gb173, 0, none⟩ = some (.int .i64 a0_0) := (blk_cell BK173.out 0).trans rfl; have hcz35_1 : w34.cell? ⟨gb173, 1, none⟩ = some (.int .i64 a0_1) := (blk_cell BK173.out 1).trans rfl; have hcz35_2 : w34.cell? ⟨gb173, 2, none⟩ = some (.int .i64 a0_2) := (blk_cell BK173.out 2).trans rfl; have hcz35_3 : w34.cell? ⟨gb173, 3, none⟩ = some (.int .i64 a0_3) := (blk_cell BK173.out 3).trans rfl; have hcz35_4 : w34.cell? ⟨gb173, 4, none⟩ = some (.int .i64 a0_4) := (blk_cell BK173.out 4).trans rfl; have hcz35_5 : w34.cell? ⟨gb173, 5, none⟩ = some (.int .i32 a0_5) := (blk_cell BK173.out 5).trans rfl; have hcz35_6 : w34.cell? ⟨gb173, 6, none⟩ = some (.int .i64 a0_6) := (blk_cell BK173.out 6).trans rfl; have hfz35_0 := blk_frozen BK173.out 0; have hfz35_1 := blk_frozen BK173.out 1; have hfz35_2 := blk_frozen BK173.out 2; have hfz35_3 := blk_frozen BK173.out 3; have hfz35_4 := blk_frozen BK173.out 4; have hfz35_5 := blk_frozen BK173.out 5; have hfz35_6 := blk_frozen BK173.out 6) | (go_at_call 34; (with_reducible refine (crucibleref02_May.calls k a0_1 a0_2 a0_3 a0_4 a0_5 t177 _ A33.out).mono ?_); rintro e w36 ⟨rfl, hb⟩; have n0_ := Aside0.mk (blk_below (g := gb173) (o := .cells #[.int .i64 a0_0, .int .i64 a0_1, .int .i64 a0_2, .int .i64 a0_3, .int .i64 a0_4, .int .i32 a0_5, .int .i64 a0_6] 37 (0, 0)) (by (with_reducible repeat (first | refine blk_drewN ?_ _ | refine blk_drew ?_ | refine blk_alloc ?_ _)); exact BK173.out) hb); have n1_ := Aside0.mk (below_step (by repeat (first | (with_reducible first | exact HB.out | apply below_alloc | apply pw_below_drewN | apply below_drew1 | refine below_set ?_ GE173.out) | exact HB.out)) hb); clear BK173; clear HB; have BK173 := n0_; have HB := n1_; clear n0_ n1_; (try clear hb); (try clear hb2); (try clear hk); (try clear hi)))
                go_ret
                exact ⟨by first | rfl | (simp [errW_none, errW_some] <;> rfl) | (simp [*, errW_none, errW_some] <;> rfl), by repeat (first | (with_reducible first | exact HB.out | apply below_alloc | apply pw_below_drewN | apply below_drew1 | refine below_set ?_ GE173.out) | exact HB.out)⟩
              · rw [if_neg c32] at H
                have c32b0 : (a0_5 == 0) = false := beq_eq_false_iff_ne.mpr c32
                have c32b1 : (a0_5 != 0) = true := bne_iff_ne.mpr c32
                obtain rfl := Option.some.inj H
                go_enter Try.func24, Try.ntmps24
                go_wp2_with (first | ((with_reducible refine gate_dst (N := 1) rfl ?_); refine box_event ?hg (N := 1) ?hd (cs := #[.int .i64 a0_0, .int .i64 a0_1, .int .i64 a0_2, .int .i64 a0_3, .int .i64 a0_4, .int .i32 a0_5, .int .i64 a0_6]) (t := 37) ?hr ?_; (case hd => rfl); (case hg => rfl); (case hr => first | (go_simp; done) | (go_simp; rfl)); intro gb173 hg w37 hbox hb; have n0_ := Aside0.mk (below_step (by repeat (first | (with_reducible first | exact HB.out | apply below_alloc | apply pw_below_drewN | apply below_drew1) | exact HB.out)) hb); have n1_ := Aside0.mk (hbox); have n2_ := Aside0.mk ((by rw [hg]; exact (below_size (by repeat (first | (with_reducible first | exact HB.out | apply below_alloc | apply pw_below_drewN | apply below_drew1) | exact HB.out))) : w.heap.size ≤ gb173)); have n3_ := Aside0.mk ((by rw [hg]; exact (below_size (by repeat (first | (with_reducible first | exact HB.out | apply below_alloc | apply pw_below_drewN | apply below_drew1) | exact HB.out))) : w.heap.size ≤ gb173)); clear HB; have HB := n0_; have BK173 := n1_; have GW173 := n2_; have GE173 := n3_; clear n0_ n1_ n2_ n3_; clear hb hbox hg; have hcz38_0 : w37.cell? ⟨gb173, 0, none⟩ = some (.int .i64 a0_0) := (blk_cell BK173.out 0).trans rfl; have hcz38_1 : w37.cell? ⟨gb173, 1, none⟩ = some (.int .i64 a0_1) := (blk_cell BK173.out 1).trans rfl; have hcz38_2 : w37.cell? ⟨gb173, 2, none⟩ = some (.int .i64 a0_2) := (blk_cell BK173.out 2).trans rfl; have hcz38_3 : w37.cell? ⟨gb173, 3, none⟩ = some (.int .i64 a0_3) := (blk_cell BK173.out 3).trans rfl; have hcz38_4 : w37.cell? ⟨gb173, 4, none⟩ = some (.int .i64 a0_4) := (blk_cell BK173.out 4).trans rfl; have hcz38_5 : w37.cell? ⟨gb173, 5, none⟩ = some (.int .i32 a0_5) := (blk_cell BK173.out 5).trans rfl; have hcz38_6 : w37.cell? ⟨gb173, 6, none⟩ = some (.int .i64 a0_6) := (blk_cell BK173.out 6).trans rfl; have hfz38_0 := blk_frozen BK173.out 0; have hfz38_1 := blk_frozen BK173.out 1; have hfz38_2 := blk_frozen BK173.out 2; have hfz38_3 := blk_frozen BK173.out 3; have hfz38_4 := blk_frozen BK173.out 4; have hfz38_5 := blk_frozen BK173.out 5; have hfz38_6 := blk_frozen BK173.out 6))
                go_ret
                exact ⟨by first | rfl | (simp [errW_none, errW_some] <;> rfl) | (simp [*, errW_none, errW_some] <;> rfl), by repeat (first | (with_reducible first | exact HB.out | apply below_alloc | apply pw_below_drewN | apply below_drew1 | refine below_set ?_ GE173.out) | exact HB.out)⟩
            · rw [if_neg c31] at H
              have c31b0 : decide (0 < a0_6) = false := decide_eq_false c31
              clear c31
              obtain rfl := Option.some.inj H
              go_enter Try.func24, Try.ntmps24
              go_wp2_with (first | ((with_reducible refine gate_dst (N := 1) rfl ?_); refine box_event ?hg (N := 1) ?hd (cs := #[.int .i64 a0_0, .int .i64 a0_1, .int .i64 a0_2, .int .i64 a0_3, .int .i64 a0_4, .int .i32 a0_5, .int .i64 a0_6]) (t := 37) ?hr ?_; (case hd => rfl); (case hg => rfl); (case hr => first | (go_simp; done) | (go_simp; rfl)); intro gb173 hg w39 hbox hb; have n0_ := Aside0.mk (below_step (by repeat (first | (with_reducible first | exact HB.out | apply below_alloc | apply pw_below_drewN | apply below_drew1) | exact HB.out)) hb); have n1_ := Aside0.mk (hbox); have n2_ := Aside0.mk ((by rw [hg]; exact (below_size (by repeat (first | (with_reducible first | exact HB.out | apply below_alloc | apply pw_below_drewN | apply below_drew1) | exact HB.out))) : w.heap.size ≤ gb173)); have n3_ := Aside0.mk ((by rw [hg]; exact (below_size (by repeat (first | (with_reducible first | exact HB.out | apply below_alloc | apply pw_below_drewN | apply below_drew1) | exact HB.out))) : w.heap.size ≤ gb173)); clear HB; have HB := n0_; have BK173 := n1_; have GW173 := n2_; have GE173 := n3_; clear n0_ n1_ n2_ n3_; clear hb hbox hg; have hcz40_0 : w39.cell? ⟨gb173, 0, none⟩ = some (.int .i64 a0_0) := (blk_cell BK173.out 0).trans rfl; have hcz40_1 : w39.cell? ⟨gb173, 1, none⟩ = some (.int .i64 a0_1) := (blk_cell BK173.out 1).trans rfl; have hcz40_2 : w39.cell? ⟨gb173, 2, none⟩ = some (.int .i64 a0_2) := (blk_cell BK173.out 2).trans rfl; have hcz40_3 : w39.cell? ⟨gb173, 3, none⟩ = some (.int .i64 a0_3) := (blk_cell BK173.out 3).trans rfl; have hcz40_4 : w39.cell? ⟨gb173, 4, none⟩ = some (.int .i64 a0_4) := (blk_cell BK173.out 4).trans rfl; have hcz40_5 : w39.cell? ⟨gb173, 5, none⟩ = some (.int .i32 a0_5) := (blk_cell BK173.out 5).trans rfl; have hcz40_6 : w39.cell? ⟨gb173, 6, none⟩ = some (.int .i64 a0_6) := (blk_cell BK173.out 6).trans rfl; have hfz40_0 := blk_frozen BK173.out 0; have hfz40_1 := blk_frozen BK173.out 1; have hfz40_2 := blk_frozen BK173.out 2; have hfz40_3 := blk_frozen BK173.out 3; have hfz40_4 := blk_frozen BK173.out 4; have hfz40_5 := blk_frozen BK173.out 5; have hfz40_6 := blk_frozen BK173.out 6))
              go_ret
              exact ⟨by first | rfl | (simp [errW_none, errW_some] <;> rfl) | (simp [*, errW_none, errW_some] <;> rfl), by repeat (first | (with_reducible first | exact HB.out | apply below_alloc | apply pw_below_drewN | apply below_drew1 | refine below_set ?_ GE173.out) | exact HB.out)⟩
          · rw [if_neg c30] at H
            have c30b0 : (a0_1 == 41) = false := beq_eq_false_iff_ne.mpr c30
            have c30b1 : (a0_1 != 41) = true := bne_iff_ne.mpr c30
            by_cases c41 : a0_6 > 0
            · rw [if_pos c41] at H
              have c41b0 : decide (0 < a0_6) = true := decide_eq_true c41
              clear c41
              by_cases c42 : a0_1 = 42
              · rw [if_pos c42] at H
                have c42b0 : (a0_1 == 42) = true := beq_iff_eq.mpr c42
                have c42b1 : (a0_1 != 42) = false := bne_eq_false_iff_eq.mpr c42
                clear c42
                by_cases c43 : a0_5 = 0
                · rw [if_pos c43] at H
                  have c43b0 : (a0_5 == 0) = true := beq_iff_eq.mpr c43
                  have c43b1 : (a0_5 != 0) = false := bne_eq_false_iff_eq.mpr c43
                  clear c43
                  replace H := Option.bind_eq_some_iff.mp H
                  obtain ⟨t178, A440, H⟩ := H
                  replace H : (some t178) = some r := H
                  have A44 := Aside0.mk A440
                  clear A440
                  obtain rfl := Option.some.inj H
                  go_enter Try.func24, Try.ntmps24
                  go_wp2_with (first | ((with_reducible refine gate_dst (N := 1) rfl ?_); refine box_event ?hg (N := 1) ?hd (cs := #[.int .i64 a0_0, .int .i64 a0_1, .int .i64 a0_2, .int .i64 a0_3, .int .i64 a0_4, .int .i32 a0_5, .int .i64 a0_6]) (t := 37) ?hr ?_; (case hd => rfl); (case hg => rfl); (case hr => first | (go_simp; done) | (go_simp; rfl)); intro gb173 hg w45 hbox hb; have n0_ := Aside0.mk (below_step (by repeat (first | (with_reducible first | exact HB.out | apply below_alloc | apply pw_below_drewN | apply below_drew1) | exact HB.out)) hb); have n1_ := Aside0.mk (hbox); have n2_ := Aside0.mk ((by rw [hg]; exact (below_size (by repeat (first | (with_reducible first | exact HB.out | apply below_alloc | apply pw_below_drewN | apply below_drew1) | exact HB.out))) : w.heap.size ≤ gb173)); have n3_ := Aside0.mk ((by rw [hg]; exact (below_size (by repeat (first | (with_reducible first | exact HB.out | apply below_alloc | apply pw_below_drewN | apply below_drew1) | exact HB.out))) : w.heap.size ≤ gb173)); clear HB; have HB := n0_; have BK173 := n1_; have GW173 := n2_; have GE173 := n3_; clear n0_ n1_ n2_ n3_; clear hb hbox hg; have hcz46_0 : w45.cell? ⟨gb173, 0, none⟩ = some (.int .i64 a0_0) := (blk_cell BK173.out 0).trans rfl; have hcz46_1 : w45.cell? ⟨gb173, 1, none⟩ = some (.int .i64 a0_1) := (blk_cell BK173.out 1).trans rfl; have hcz46_2 : w45.cell? ⟨gb173, 2, none⟩ = some (.int .i64 a0_2) := (blk_cell BK173.out 2).trans rfl; have hcz46_3 : w45.cell? ⟨gb173, 3, none⟩ = some (.int .i64 a0_3) := (blk_cell BK173.out 3).trans rfl; have hcz46_4 : w45.cell? ⟨gb173, 4, none⟩ = some (.int .i64 a0_4) := (blk_cell BK173.out 4).trans rfl; have hcz46_5 : w45.cell? ⟨gb173, 5, none⟩ = some (.int .i32 a0_5) := (blk_cell BK173.out 5).trans rfl; have hcz46_6 : w45.cell? ⟨gb173, 6, none⟩ = some (.int .i64 a0_6) := (blk_cell BK173.out 6).trans rfl; have hfz46_0 := blk_frozen BK173.out 0; have hfz46_1 := blk_frozen BK173.out 1; have hfz46_2 := blk_frozen BK173.out 2; have hfz46_3 := blk_frozen BK173.out 3; have hfz46_4 := blk_frozen BK173.out 4; have hfz46_5 := blk_frozen BK173.out 5; have hfz46_6 := blk_frozen BK173.out 6) | (go_at_call 34; (with_reducible refine (crucibleref02_May.calls k a0_1 a0_2 a0_3 a0_4 a0_5 t178 _ A44.out).mono ?_); rintro e w47 ⟨rfl, hb⟩; have n0_ := Aside0.mk (blk_below (g := gb173) (o := .cells #[.int .i64 a0_0, .int .i64 a0_1, .int .i64 a0_2, .int .i64 a0_3, .int .i64 a0_4, .int .i32 a0_5, .int .i64 a0_6] 37 (0, 0)) (by (with_reducible repeat (first | refine blk_drewN ?_ _ | refine blk_drew ?_ | refine blk_alloc ?_ _)); exact BK173.out) hb); have n1_ := Aside0.mk (below_step (by repeat (first | (with_reducible first | exact HB.out | apply below_alloc | apply pw_below_drewN | apply below_drew1 | refine below_set ?_ GE173.out) | exact HB.out)) hb); clear BK173; clear HB; have BK173 := n0_; have HB := n1_; clear n0_ n1_; (try clear hb); (try clear hb2); (try clear hk); (try clear hi)))
                  go_ret
                  exact ⟨by first | rfl | (simp [errW_none, errW_some] <;> rfl) | (simp [*, errW_none, errW_some] <;> rfl), by repeat (first | (with_reducible first | exact HB.out | apply below_alloc | apply pw_below_drewN | apply below_drew1 | refine below_set ?_ GE173.out) | exact HB.out)⟩
                · rw [if_neg c43] at H
                  have c43b0 : (a0_5 == 0) = false := beq_eq_false_iff_ne.mpr c43
                  have c43b1 : (a0_5 != 0) = true := bne_iff_ne.mpr c43
                  obtain rfl := Option.some.inj H
                  go_enter Try.func24, Try.ntmps24
                  go_wp2_with (first | ((with_reducible refine gate_dst (N := 1) rfl ?_); refine box_event ?hg (N := 1) ?hd (cs := #[.int .i64 a0_0, .int .i64 a0_1, .int .i64 a0_2, .int .i64 a0_3, .int .i64 a0_4, .int .i32 a0_5, .int .i64 a0_6]) (t := 37) ?hr ?_; (case hd => rfl); (case hg => rfl); (case hr => first | (go_simp; done) | (go_simp; rfl)); intro gb173 hg w48 hbox hb; have n0_ := Aside0.mk (below_step (by repeat (first | (with_reducible first | exact HB.out | apply below_alloc | apply pw_below_drewN | apply below_drew1) | exact HB.out)) hb); have n1_ := Aside0.mk (hbox); have n2_ := Aside0.mk ((by rw [hg]; exact (below_size (by repeat (first | (with_reducible first | exact HB.out | apply below_alloc | apply pw_below_drewN | apply below_drew1) | exact HB.out))) : w.heap.size ≤ gb173)); have n3_ := Aside0.mk ((by rw [hg]; exact (below_size (by repeat (first | (with_reducible first | exact HB.out | apply below_alloc | apply pw_below_drewN | apply below_drew1) | exact HB.out))) : w.heap.size ≤ gb173)); clear HB; have HB := n0_; have BK173 := n1_; have GW173 := n2_; have GE173 := n3_; clear n0_ n1_ n2_ n3_; clear hb hbox hg; have hcz49_0 : w48.cell? ⟨gb173, 0, none⟩ = some (.int .i64 a0_0) := (blk_cell BK173.out 0).trans rfl; have hcz49_1 : w48.cell? ⟨gb173, 1, none⟩ = some (.int .i64 a0_1) := (blk_cell BK173.out 1).trans rfl; have hcz49_2 : w48.cell? ⟨gb173, 2, none⟩ = some (.int .i64 a0_2) := (blk_cell BK173.out 2).trans rfl; have hcz49_3 : w48.cell? ⟨gb173, 3, none⟩ = some (.int .i64 a0_3) := (blk_cell BK173.out 3).trans rfl; have hcz49_4 : w48.cell? ⟨gb173, 4, none⟩ = some (.int .i64 a0_4) := (blk_cell BK173.out 4).trans rfl; have hcz49_5 : w48.cell? ⟨gb173, 5, none⟩ = some (.int .i32 a0_5) := (blk_cell BK173.out 5).trans rfl; have hcz49_6 : w48.cell? ⟨gb173, 6, none⟩ = some (.int .i64 a0_6) := (blk_cell BK173.out 6).trans rfl; have hfz49_0 := blk_frozen BK173.out 0; have hfz49_1 := blk_frozen BK173.out 1; have hfz49_2 := blk_frozen BK173.out 2; have hfz49_3 := blk_frozen BK173.out 3; have hfz49_4 := blk_frozen BK173.out 4; have hfz49_5 := blk_frozen BK173.out 5; have hfz49_6 := blk_frozen BK173.out 6))
                  go_ret
                  exact ⟨by first | rfl | (simp [errW_none, errW_some] <;> rfl) | (simp [*, errW_none, errW_some] <;> rfl), by repeat (first | (with_reducible first | exact HB.out | apply below_alloc | apply pw_below_drewN | apply below_drew1 | refine below_set ?_ GE173.out) | exact HB.out)⟩
              · rw [if_neg c42] at H
                have c42b0 : (a0_1 == 42) = false := beq_eq_false_iff_ne.mpr c42
                have c42b1 : (a0_1 != 42) = true := bne_iff_ne.mpr c42
                obtain rfl := Option.some.inj H
                go_enter Try.func24, Try.ntmps24
                go_wp2_with (first | ((with_reducible refine gate_dst (N := 1) rfl ?_); refine box_event ?hg (N := 1) ?hd (cs := #[.int .i64 a0_0, .int .i64 a0_1, .int .i64 a0_2, .int .i64 a0_3, .int .i64 a0_4, .int .i32 a0_5, .int .i64 a0_6]) (t := 37) ?hr ?_; (case hd => rfl); (case hg => rfl); (case hr => first | (go_simp; done) | (go_simp; rfl)); intro gb173 hg w50 hbox hb; have n0_ := Aside0.mk (below_step (by repeat (first | (with_reducible first | exact HB.out | apply below_alloc | apply pw_below_drewN | apply below_drew1) | exact HB.out)) hb); have n1_ := Aside0.mk (hbox); have n2_ := Aside0.mk ((by rw [hg]; exact (below_size (by repeat (first | (with_reducible first | exact HB.out | apply below_alloc | apply pw_below_drewN | apply below_drew1) | exact HB.out))) : w.heap.size ≤ gb173)); have n3_ := Aside0.mk ((by rw [hg]; exact (below_size (by repeat (first | (with_reducible first | exact HB.out | apply below_alloc | apply pw_below_drewN | apply below_drew1) | exact HB.out))) : w.heap.size ≤ gb173)); clear HB; have HB := n0_; have BK173 := n1_; have GW173 := n2_; have GE173 := n3_; clear n0_ n1_ n2_ n3_; clear hb hbox hg; have hcz51_0 : w50.cell? ⟨gb173, 0, none⟩ = some (.int .i64 a0_0) := (blk_cell BK173.out 0).trans rfl; have hcz51_1 : w50.cell? ⟨gb173, 1, none⟩ = some (.int .i64 a0_1) := (blk_cell BK173.out 1).trans rfl; have hcz51_2 : w50.cell? ⟨gb173, 2, none⟩ = some (.int .i64 a0_2) := (blk_cell BK173.out 2).trans rfl; have hcz51_3 : w50.cell? ⟨gb173, 3, none⟩ = some (.int .i64 a0_3) := (blk_cell BK173.out 3).trans rfl; have hcz51_4 : w50.cell? ⟨gb173, 4, none⟩ = some (.int .i64 a0_4) := (blk_cell BK173.out 4).trans rfl; have hcz51_5 : w50.cell? ⟨gb173, 5, none⟩ = some (.int .i32 a0_5) := (blk_cell BK173.out 5).trans rfl; have hcz51_6 : w50.cell? ⟨gb173, 6, none⟩ = some (.int .i64 a0_6) := (blk_cell BK173.out 6).trans rfl; have hfz51_0 := blk_frozen BK173.out 0; have hfz51_1 := blk_frozen BK173.out 1; have hfz51_2 := blk_frozen BK173.out 2; have hfz51_3 := blk_frozen BK173.out 3; have hfz51_4 := blk_frozen BK173.out 4; have hfz51_5 := blk_frozen BK173.out 5; have hfz51_6 := blk_frozen BK173.out 6))
                go_ret
                exact ⟨by first | rfl | (simp [errW_none, errW_some] <;> rfl) | (simp [*, errW_none, errW_some] <;> rfl), by repeat (first | (with_reducible first | exact HB.out | apply below_alloc | apply pw_below_drewN | apply below_drew1 | refine below_set ?_ GE173.out) | exact HB.out)⟩
            · rw [if_neg c41] at H
              have c41b0 : decide (0 < a0_6) = false := decide_eq_false c41
              clear c41
              obtain rfl := Option.some.inj H
              go_enter Try.func24, Try.ntmps24
              go_wp2_with (first | ((with_reducible refine gate_dst (N := 1) rfl ?_); refine box_event ?hg (N := 1) ?hd (cs := #[.int .i64 a0_0, .int .i64 a0_1, .int .i64 a0_2, .int .i64 a0_3, .int .i64 a0_4, .int .i32 a0_5, .int .i64 a0_6]) (t := 37) ?hr ?_; (case hd => rfl); (case hg => rfl); (case hr => first | (go_simp; done) | (go_simp; rfl)); intro gb173 hg w52 hbox hb; have n0_ := Aside0.mk (below_step (by repeat (first | (with_reducible first | exact HB.out | apply below_alloc | apply pw_below_drewN | apply below_drew1) | exact HB.out)) hb); have n1_ := Aside0.mk (hbox); have n2_ := Aside0.mk ((by rw [hg]; exact (below_size (by repeat (first | (with_reducible first | exact HB.out | apply below_alloc | apply pw_below_drewN | apply below_drew1) | exact HB.out))) : w.heap.size ≤ gb173)); have n3_ := Aside0.mk ((by rw [hg]; exact (below_size (by repeat (first | (with_reducible first | exact HB.out | apply below_alloc | apply pw_below_drewN | apply below_drew1) | exact HB.out))) : w.heap.size ≤ gb173)); clear HB; have HB := n0_; have BK173 := n1_; have GW173 := n2_; have GE173 := n3_; clear n0_ n1_ n2_ n3_; clear hb hbox hg; have hcz53_0 : w52.cell? ⟨gb173, 0, none⟩ = some (.int .i64 a0_0) := (blk_cell BK173.out 0).trans rfl; have hcz53_1 : w52.cell? ⟨gb173, 1, none⟩ = some (.int .i64 a0_1) := (blk_cell BK173.out 1).trans rfl; have hcz53_2 : w52.cell? ⟨gb173, 2, none⟩ = some (.int .i64 a0_2) := (blk_cell BK173.out 2).trans rfl; have hcz53_3 : w52.cell? ⟨gb173, 3, none⟩ = some (.int .i64 a0_3) := (blk_cell BK173.out 3).trans rfl; have hcz53_4 : w52.cell? ⟨gb173, 4, none⟩ = some (.int .i64 a0_4) := (blk_cell BK173.out 4).trans rfl; have hcz53_5 : w52.cell? ⟨gb173, 5, none⟩ = some (.int .i32 a0_5) := (blk_cell BK173.out 5).trans rfl; have hcz53_6 : w52.cell? ⟨gb173, 6, none⟩ = some (.int .i64 a0_6) := (blk_cell BK173.out 6).trans rfl; have hfz53_0 := blk_frozen BK173.out 0; have hfz53_1 := blk_frozen BK173.out 1; have hfz53_2 := blk_frozen BK173.out 2; have hfz53_3 := blk_frozen BK173.out 3; have hfz53_4 := blk_frozen BK173.out 4; have hfz53_5 := blk_frozen BK173.out 5; have hfz53_6 := blk_frozen BK173.out 6))
              go_ret
              exact ⟨by first | rfl | (simp [errW_none, errW_some] <;> rfl) | (simp [*, errW_none, errW_some] <;> rfl), by repeat (first | (with_reducible first | exact HB.out | apply below_alloc | apply pw_below_drewN | apply below_drew1 | refine below_set ?_ GE173.out) | exact HB.out)⟩
  · rw [if_neg c2] at H
    have c2b0 : (a0_0 == 0) = false := beq_eq_false_iff_ne.mpr c2
    have c2b1 : (a0_0 != 0) = true := bne_iff_ne.mpr c2
    by_cases c54 : a0_0 > 0
    · rw [if_pos c54] at H
      have c54b0 : decide (0 < a0_0) = true := decide_eq_true c54
      clear c54
      by_cases c55 : a0_6 = 0
      · rw [if_pos c55] at H
        have c55b0 : (a0_6 == 0) = true := beq_iff_eq.mpr c55
        have c55b1 : (a0_6 != 0) = false := bne_eq_false_iff_eq.mpr c55
        clear c55
        obtain rfl := Option.some.inj H
        go_enter Try.func24, Try.ntmps24
        go_wp2_with (first | ((with_reducible refine gate_dst (N := 1) rfl ?_); refine box_event ?hg (N := 1) ?hd (cs := #[.int .i64 a0_0, .int .i64 a0_1, .int .i64 a0_2, .int .i64 a0_3, .int .i64 a0_4, .int .i32 a0_5, .int .i64 a0_6]) (t := 37) ?hr ?_; (case hd => rfl); (case hg => rfl); (case hr => first | (go_simp; done) | (go_simp; rfl)); intro gb173 hg w56 hbox hb; have n0_ := Aside0.mk (below_step (by repeat (first | (with_reducible first | exact HB.out | apply below_alloc | apply pw_below_drewN | apply below_drew1) | exact HB.out)) hb); have n1_ := Aside0.mk (hbox); have n2_ := Aside0.mk ((by rw [hg]; exact (below_size (by repeat (first | (with_reducible first | exact HB.out | apply below_alloc | apply pw_below_drewN | apply below_drew1) | exact HB.out))) : w.heap.size ≤ gb173)); have n3_ := Aside0.mk ((by rw [hg]; exact (below_size (by repeat (first | (with_reducible first | exact HB.out | apply below_alloc | apply pw_below_drewN | apply below_drew1) | exact HB.out))) : w.heap.size ≤ gb173)); clear HB; have HB := n0_; have BK173 := n1_; have GW173 := n2_; have GE173 := n3_; clear n0_ n1_ n2_ n3_; clear hb hbox hg; have hcz57_0 : w56.cell? ⟨gb173, 0, none⟩ = some (.int .i64 a0_0) := (blk_cell BK173.out 0).trans rfl; have hcz57_1 : w56.cell? ⟨gb173, 1, none⟩ = some (.int .i64 a0_1) := (blk_cell BK173.out 1).trans rfl; have hcz57_2 : w56.cell? ⟨gb173, 2, none⟩ = some (.int .i64 a0_2) := (blk_cell BK173.out 2).trans rfl; have hcz57_3 : w56.cell? ⟨gb173, 3, none⟩ = some (.int .i64 a0_3) := (blk_cell BK173.out 3).trans rfl; have hcz57_4 : w56.cell? ⟨gb173, 4, none⟩ = some (.int .i64 a0_4) := (blk_cell BK173.out 4).trans rfl; have hcz57_5 : w56.cell? ⟨gb173, 5, none⟩ = some (.int .i32 a0_5) := (blk_cell BK173.out 5).trans rfl; have hcz57_6 : w56.cell? ⟨gb173, 6, none⟩ = some (.int .i64 a0_6) := (blk_cell BK173.out 6).trans rfl; have hfz57_0 := blk_frozen BK173.out 0; have hfz57_1 := blk_frozen BK173.out 1; have hfz57_2 := blk_frozen BK173.out 2; have hfz57_3 := blk_frozen BK173.out 3; have hfz57_4 := blk_frozen BK173.out 4; have hfz57_5 := blk_frozen BK173.out 5; have hfz57_6 := blk_frozen BK173.out 6))
        go_ret
        exact ⟨by first | rfl | (simp [errW_none, errW_some] <;> rfl) | (simp [*, errW_none, errW_some] <;> rfl), by repeat (first | (with_reducible first | exact HB.out | apply below_alloc | apply pw_below_drewN | apply below_drew1 | refine below_set ?_ GE173.out) | exact HB.out)⟩
      · rw [if_neg c55] at H
        have c55b0 : (a0_6 == 0) = false := beq_eq_false_iff_ne.mpr c55
        have c55b1 : (a0_6 != 0) = true := bne_iff_ne.mpr c55
        obtain rfl := Option.some.inj H
        go_enter Try.func24, Try.ntmps24
        go_wp2_with (first | ((with_reducible refine gate_dst (N := 1) rfl ?_); refine box_event ?hg (N := 1) ?hd (cs := #[.int .i64 a0_0, .int .i64 a0_1, .int .i64 a0_2, .int .i64 a0_3, .int .i64 a0_4, .int .i32 a0_5, .int .i64 a0_6]) (t := 37) ?hr ?_; (case hd => rfl); (case hg => rfl); (case hr => first | (go_simp; done) | (go_simp; rfl)); intro gb173 hg w58 hbox hb; have n0_ := Aside0.mk (below_step (by repeat (first | (with_reducible first | exact HB.out | apply below_alloc | apply pw_below_drewN | apply below_drew1) | exact HB.out)) hb); have n1_ := Aside0.mk (hbox); have n2_ := Aside0.mk ((by rw [hg]; exact (below_size (by repeat (first | (with_reducible first | exact HB.out | apply below_alloc | apply pw_below_drewN | apply below_drew1) | exact HB.out))) : w.heap.size ≤ gb173)); have n3_ := Aside0.mk ((by rw [hg]; exact (below_size (by repeat (first | (with_reducible first | exact HB.out | apply below_alloc | apply pw_below_drewN | apply below_drew1) | exact HB.out))) : w.heap.size ≤ gb173)); clear HB; have HB := n0_; have BK173 := n1_; have GW173 := n2_; have GE173 := n3_; clear n0_ n1_ n2_ n3_; clear hb hbox hg; have hcz59_0 : w58.cell? ⟨gb173, 0, none⟩ = some (.int .i64 a0_0) := (blk_cell BK173.out 0).trans rfl; have hcz59_1 : w58.cell? ⟨gb173, 1, none⟩ = some (.int .i64 a0_1) := (blk_cell BK173.out 1).trans rfl; have hcz59_2 : w58.cell? ⟨gb173, 2, none⟩ = some (.int .i64 a0_2) := (blk_cell BK173.out 2).trans rfl; have hcz59_3 : w58.cell? ⟨gb173, 3, none⟩ = some (.int .i64 a0_3) := (blk_cell BK173.out 3).trans rfl; have hcz59_4 : w58.cell? ⟨gb173, 4, none⟩ = some (.int .i64 a0_4) := (blk_cell BK173.out 4).trans rfl; have hcz59_5 : w58.cell? ⟨gb173, 5, none⟩ = some (.int .i32 a0_5) := (blk_cell BK173.out 5).trans rfl; have hcz59_6 : w58.cell? ⟨gb173, 6, none⟩ = some (.int .i64 a0_6) := (blk_cell BK173.out 6).trans rfl; have hfz59_0 := blk_frozen BK173.out 0; have hfz59_1 := blk_frozen BK173.out 1; have hfz59_2 := blk_frozen BK173.out 2; have hfz59_3 := blk_frozen BK173.out 3; have hfz59_4 := blk_frozen BK173.out 4; have hfz59_5 := blk_frozen BK173.out 5; have hfz59_6 := blk_frozen BK173.out 6))
        go_ret
        exact ⟨by first | rfl | (simp [errW_none, errW_some] <;> rfl) | (simp [*, errW_none, errW_some] <;> rfl), by repeat (first | (with_reducible first | exact HB.out | apply below_alloc | apply pw_below_drewN | apply below_drew1 | refine below_set ?_ GE173.out) | exact HB.out)⟩
    · rw [if_neg c54] at H
      have c54b0 : decide (0 < a0_0) = false := decide_eq_false c54
      clear c54
      obtain rfl := Option.some.inj H
      go_enter Try.func24, Try.ntmps24
      go_wp2_with (first | ((with_reducible refine gate_dst (N := 1) rfl ?_); refine box_event ?hg (N := 1) ?hd (cs := #[.int .i64 a0_0, .int .i64 a0_1, .int .i64 a0_2, .int .i64 a0_3, .int .i64 a0_4, .int .i32 a0_5, .int .i64 a0_6]) (t := 37) ?hr ?_; (case hd => rfl); (case hg => rfl); (case hr => first | (go_simp; done) | (go_simp; rfl)); intro gb173 hg w60 hbox hb; have n0_ := Aside0.mk (below_step (by repeat (first | (with_reducible first | exact HB.out | apply below_alloc | apply pw_below_drewN | apply below_drew1) | exact HB.out)) hb); have n1_ := Aside0.mk (hbox); have n2_ := Aside0.mk ((by rw [hg]; exact (below_size (by repeat (first | (with_reducible first | exact HB.out | apply below_alloc | apply pw_below_drewN | apply below_drew1) | exact HB.out))) : w.heap.size ≤ gb173)); have n3_ := Aside0.mk ((by rw [hg]; exact (below_size (by repeat (first | (with_reducible first | exact HB.out | apply below_alloc | apply pw_below_drewN | apply below_drew1) | exact HB.out))) : w.heap.size ≤ gb173)); clear HB; have HB := n0_; have BK173 := n1_; have GW173 := n2_; have GE173 := n3_; clear n0_ n1_ n2_ n3_; clear hb hbox hg; have hcz61_0 : w60.cell? ⟨gb173, 0, none⟩ = some (.int .i64 a0_0) := (blk_cell BK173.out 0).trans rfl; have hcz61_1 : w60.cell? ⟨gb173, 1, none⟩ = some (.int .i64 a0_1) := (blk_cell BK173.out 1).trans rfl; have hcz61_2 : w60.cell? ⟨gb173, 2, none⟩ = some (.int .i64 a0_2) := (blk_cell BK173.out 2).trans rfl; have hcz61_3 : w60.cell? ⟨gb173, 3, none⟩ = some (.int .i64 a0_3) := (blk_cell BK173.out 3).trans rfl; have hcz61_4 : w60.cell? ⟨gb173, 4, none⟩ = some (.int .i64 a0_4) := (blk_cell BK173.out 4).trans rfl; have hcz61_5 : w60.cell? ⟨gb173, 5, none⟩ = some (.int .i32 a0_5) := (blk_cell BK173.out 5).trans rfl; have hcz61_6 : w60.cell? ⟨gb173, 6, none⟩ = some (.int .i64 a0_6) := (blk_cell BK173.out 6).trans rfl; have hfz61_0 := blk_frozen BK173.out 0; have hfz61_1 := blk_frozen BK173.out 1; have hfz61_2 := blk_frozen BK173.out 2; have hfz61_3 := blk_frozen BK173.out 3; have hfz61_4 := blk_frozen BK173.out 4; have hfz61_5 := blk_frozen BK173.out 5; have hfz61_6 := blk_frozen BK173.out 6))
      go_ret
      exact ⟨by first | rfl | (simp [errW_none, errW_some] <;> rfl) | (simp [*, errW_none, errW_some] <;> rfl), by repeat (first | (with_reducible first | exact HB.out | apply below_alloc | apply pw_below_drewN | apply below_drew1 | refine below_set ?_ GE173.out) | exact HB.out)⟩
end Go.Proofs.Ytdhmnjoceeolcaa.GF
end
