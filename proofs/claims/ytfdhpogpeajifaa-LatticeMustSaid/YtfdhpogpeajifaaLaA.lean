/- The plain law of the work list: what it tells is the least fixed point, and its row stays short. -/
namespace Go.Proofs.Ytfdhpogpeajifaa.Lat
set_option linter.unusedVariables false
set_option linter.unusedSimpArgs false
abbrev V := BitVec 64
/-- A question: nodes, edges, and what is joined and flows; its order and the height of a value. -/
structure Sys where
  N : Nat
  E : List (Nat × Nat)
  start : Nat → V
  bot : V
  join : V → V → V
  flow : Nat → V → V
  le : V → V → Prop
  rank : V → Nat
structure Sys.Ok (P : Sys) : Prop where
  refl : ∀ a, P.le a a
  trans : ∀ {a b c}, P.le a b → P.le b c → P.le a c
  anti : ∀ {a b}, P.le a b → P.le b a → a = b
  jm : ∀ {a b c d}, P.le a b → P.le c d → P.le (P.join a c) (P.join b d)
  fm : ∀ n {a b}, P.le a b → P.le (P.flow n a) (P.flow n b)
  bl : ∀ a, P.le P.bot a
  rk : ∀ {a b}, P.le a b → a ≠ b → P.rank a < P.rank b
  rb : ∀ a, P.rank a ≤ 64
  ed : ∀ e ∈ P.E, e.1 < P.N ∧ e.2 < P.N
def preds (E : List (Nat × Nat)) (n : Nat) : List Nat := (E.filter fun e => e.2 == n).map (·.1)
def succs (E : List (Nat × Nat)) (n : Nat) : List Nat := (E.filter fun e => e.1 == n).map (·.2)
/-- What comes in at a node. -/
def Sys.vin (P : Sys) (o : List V) (n : Nat) : V := (preds P.E n).foldl (fun v k => P.join v (o.getD k P.bot)) (P.start n)
theorem getD_over {α : Type} (l : List α) (n : Nat) (d : α) (h : l.length ≤ n) : l.getD n d = d := by
  rw [List.getD_eq_getElem?_getD, List.getElem?_eq_none h]; rfl
theorem fold_mono (P : Sys) (K : P.Ok) (o o' : List V) (h : ∀ k, P.le (o.getD k P.bot) (o'.getD k P.bot)) : ∀ (l : List Nat) (a b : V), P.le a b → P.le (l.foldl (fun v k => P.join v (o.getD k P.bot)) a) (l.foldl (fun v k => P.join v (o'.getD k P.bot)) b)
  | [], _, _, hab => hab
  | k :: l, _, _, hab => fold_mono P K o o' h l _ _ (K.jm hab (h k))
theorem vin_mono (P : Sys) (K : P.Ok) (o o' : List V) (h : ∀ k, P.le (o.getD k P.bot) (o'.getD k P.bot)) (n : Nat) : P.le (P.vin o n) (P.vin o' n) := fold_mono P K o o' h _ _ _ (K.refl _)
theorem fold_set (P : Sys) (o : List V) (n : Nat) (w : V) : ∀ (l : List Nat) (a : V), n ∉ l → l.foldl (fun v k => P.join v ((o.set n w).getD k P.bot)) a = l.foldl (fun v k => P.join v (o.getD k P.bot)) a
  | [], _, _ => rfl
  | k :: l, a, h => by
    have h1 : n ≠ k := fun q => h (by rw [q]; exact List.mem_cons_self)
    have h2 : n ∉ l := fun q => h (List.mem_cons_of_mem _ q)
    have e : (o.set n w).getD k P.bot = o.getD k P.bot := by
      rw [List.getD_eq_getElem?_getD, List.getElem?_set_ne h1, ← List.getD_eq_getElem?_getD]
    rw [List.foldl_cons, List.foldl_cons, e]
    exact fold_set P o n w l _ h2
theorem vin_set (P : Sys) (o : List V) (n m : Nat) (w : V) (h : n ∉ preds P.E m) : P.vin (o.set n w) m = P.vin o m := fold_set P o n w _ _ h
theorem mem_succs {E : List (Nat × Nat)} {n m : Nat} (h : n ∈ preds E m) : m ∈ succs E n := by
  unfold preds at h; unfold succs
  obtain ⟨e, he, rfl⟩ := List.mem_map.1 h
  obtain ⟨h1, h2⟩ := List.mem_filter.1 he
  exact List.mem_map.2 ⟨e, List.mem_filter.2 ⟨h1, by simp⟩, by simpa using h2⟩
theorem succs_lt {P : Sys} (K : P.Ok) {n m : Nat} (h : m ∈ succs P.E n) : m < P.N := by
  unfold succs at h
  obtain ⟨e, he, rfl⟩ := List.mem_map.1 h
  exact (K.ed e (List.mem_filter.1 he).1).2
theorem preds_lt {P : Sys} (K : P.Ok) {n m : Nat} (h : m ∈ preds P.E n) : m < P.N := by
  unfold preds at h
  obtain ⟨e, he, rfl⟩ := List.mem_map.1 h
  exact (K.ed e (List.mem_filter.1 he).1).1
theorem getD_set_eq {α : Type} (l : List α) (n : Nat) (w d : α) (h : n < l.length) : (l.set n w).getD n d = w := by
  rw [List.getD_eq_getElem?_getD, List.getElem?_set_self h]; rfl
theorem getD_set_ne {α : Type} (l : List α) (n m : Nat) (w d : α) (h : n ≠ m) : (l.set n w).getD m d = l.getD m d := by
  rw [List.getD_eq_getElem?_getD, List.getElem?_set_ne h, ← List.getD_eq_getElem?_getD]
/-- A fixed point: what comes out of each node. -/
def Sys.Fix (P : Sys) (o : List V) : Prop := o.length = P.N ∧ ∀ n, n < P.N → o.getD n P.bot = P.flow n (P.vin o n)
/-- The least answer. -/
structure Sys.Lfp (P : Sys) (i o : List V) : Prop where
  li : i.length = P.N
  lo : o.length = P.N
  ins : ∀ n, n < P.N → i.getD n P.bot = P.vin o n
  fix : ∀ n, n < P.N → o.getD n P.bot = P.flow n (P.vin o n)
  least : ∀ q, P.Fix q → ∀ n, n < P.N → P.le (o.getD n P.bot) (q.getD n P.bot)
theorem getD_ext (d : V) : ∀ (a b : List V), a.length = b.length → (∀ n, n < a.length → a.getD n d = b.getD n d) → a = b
  | [], [], _, _ => rfl
  | x :: a, y :: b, h, k => by
    have h0 := k 0 (by simp)
    have h1 := getD_ext d a b (by simpa using h) (fun n hn => by have := k (n + 1) (by simpa using hn); simpa using this)
    rw [h1, show x = y by simpa using h0]
theorem Sys.Lfp.unique {P : Sys} (K : P.Ok) {i o i' o' : List V} (h : P.Lfp i o) (h' : P.Lfp i' o') : i = i' ∧ o = o' := by
  have e : o = o' := getD_ext P.bot o o' (h.lo.trans h'.lo.symm) fun n hn => K.anti (h.least o' ⟨h'.lo, h'.fix⟩ n (by rw [← h.lo]; exact hn)) (h'.least o ⟨h.lo, h.fix⟩ n (by rw [← h.lo]; exact hn))
  refine ⟨getD_ext P.bot i i' (h.li.trans h'.li.symm) fun n hn => ?_, e⟩
  rw [h.ins n (by rw [← h.li]; exact hn), h'.ins n (by rw [← h.li]; exact hn), e]
theorem le_getD {P : Sys} (K : P.Ok) {a b : List V} (la : a.length = P.N) (lb : b.length = P.N) (h : ∀ n, n < P.N → P.le (a.getD n P.bot) (b.getD n P.bot)) (k : Nat) : P.le (a.getD k P.bot) (b.getD k P.bot) := by
  by_cases hk : k < P.N
  · exact h k hk
  · rw [getD_over _ _ _ (by omega)]; exact K.bl _
theorem le_set {P : Sys} (K : P.Ok) {o : List V} {n : Nat} {w : V} (hn : n < o.length) (h : P.le (o.getD n P.bot) w) (k : Nat) : P.le (o.getD k P.bot) ((o.set n w).getD k P.bot) := by
  by_cases e : n = k
  · subst e; rw [getD_set_eq _ _ _ _ hn]; exact h
  · rw [getD_set_ne _ _ _ _ _ e]; exact K.refl _
/-- The sum of the heights over the edges. -/
def Sys.hs (P : Sys) (o : List V) (E : List (Nat × Nat)) : Nat := (E.map fun e => P.rank (o.getD e.1 P.bot)).sum
theorem hs_le {P : Sys} (K : P.Ok) (o : List V) : ∀ E, P.hs o E ≤ 64 * E.length
  | [] => Nat.le_refl _
  | e :: E => by
    have h := hs_le K o E
    have := K.rb (o.getD e.1 P.bot)
    simp only [Sys.hs, List.map_cons, List.sum_cons, List.length_cons] at h ⊢
    omega
theorem hs_set {P : Sys} (K : P.Ok) (o : List V) (n : Nat) (w : V) (hn : n < o.length) (hr : P.rank (o.getD n P.bot) + 1 ≤ P.rank w) : ∀ E, P.hs o E + (succs E n).length ≤ P.hs (o.set n w) E
  | [] => Nat.le_refl _
  | e :: E => by
    have h := hs_set K o n w hn hr E
    simp only [Sys.hs, List.map_cons, List.sum_cons, succs, List.length_map, List.filter_cons] at h ⊢
    by_cases q : e.1 = n
    · rw [if_pos (by simpa using q), q, getD_set_eq _ _ _ _ hn]
      simp only [List.length_cons]
      omega
    · rw [if_neg (by simpa using q), getD_set_ne _ _ _ _ _ (fun z => q z.symm)]
      omega
/-- Those who wait, and the row behind: some nodes more. -/
def push : List Nat → List Bool × List Nat → List Bool × List Nat
  | [], s => s
  | k :: l, s => push l (if s.1.getD k false then s else (s.1.set k true, s.2 ++ [k]))
def push1 (s : List Bool × List Nat) (k : Nat) : List Bool × List Nat := if s.1.getD k false then s else (s.1.set k true, s.2 ++ [k])
theorem push_fold : ∀ (l : List Nat) (s : List Bool × List Nat), push l s = l.foldl push1 s
  | [], _ => rfl
  | k :: l, s => push_fold l _
theorem push_len : ∀ (l : List Nat) (s : List Bool × List Nat), (push l s).1.length = s.1.length ∧ (push l s).2.length ≤ s.2.length + l.length
  | [], _ => ⟨rfl, Nat.le_refl _⟩
  | k :: l, s => by
    have h := push_len l (if s.1.getD k false then s else (s.1.set k true, s.2 ++ [k]))
    unfold push
    by_cases q : s.1.getD k false = true
    · rw [if_pos q] at h ⊢
      exact ⟨h.1, by have := h.2; simp only [List.length_cons]; omega⟩
    · rw [if_neg q] at h ⊢
      refine ⟨h.1.trans (by simp), ?_⟩
      have := h.2
      simp only [List.length_append, List.length_cons, List.length_nil] at this ⊢
      omega
theorem push_pre : ∀ (l : List Nat) (s : List Bool × List Nat), ∃ t, (push l s).2 = s.2 ++ t ∧ ∀ k ∈ t, k ∈ l
  | [], s => ⟨[], by simp [push], fun k hk => by cases hk⟩
  | k :: l, s => by
    obtain ⟨t, h1, h2⟩ := push_pre l (if s.1.getD k false then s else (s.1.set k true, s.2 ++ [k]))
    unfold push
    by_cases q : s.1.getD k false = true
    · rw [if_pos q] at h1 ⊢
      exact ⟨t, h1, fun z hz => List.mem_cons_of_mem _ (h2 z hz)⟩
    · rw [if_neg q] at h1 ⊢
      refine ⟨k :: t, by rw [h1]; simp, fun z hz => ?_⟩
      rcases List.mem_cons.1 hz with rfl | hz
      · exact List.mem_cons_self
      · exact List.mem_cons_of_mem _ (h2 z hz)
theorem push_stay : ∀ (l : List Nat) (s : List Bool × List Nat) (n : Nat), n < s.1.length → s.1.getD n false = true → (push l s).1.getD n false = true
  | [], _, _, _, h => h
  | k :: l, s, n, hl, h => by
    unfold push
    by_cases q : s.1.getD k false = true
    · rw [if_pos q]; exact push_stay l s n hl h
    · rw [if_neg q]
      refine push_stay l _ n (by simpa using hl) ?_
      by_cases e : k = n
      · subst e; exact getD_set_eq _ _ _ _ hl
      · exact (getD_set_ne _ _ _ _ _ e).trans h
theorem push_on : ∀ (l : List Nat) (s : List Bool × List Nat) (n : Nat), n < s.1.length → n ∈ l → (push l s).1.getD n false = true
  | k :: l, s, n, hl, h => by
    unfold push
    by_cases e : k = n
    · subst e
      by_cases q : s.1.getD k false = true
      · rw [if_pos q]; exact push_stay l s k hl q
      · rw [if_neg q]; exact push_stay l _ k (by simpa using hl) (getD_set_eq _ _ _ _ hl)
    · have h' : n ∈ l := by
        rcases List.mem_cons.1 h with h | h
        · exact absurd h.symm e
        · exact h
      by_cases q : s.1.getD k false = true
      · rw [if_pos q]; exact push_on l s n hl h'
      · rw [if_neg q]; exact push_on l _ n (by simpa using hl) h'
/-- Who waits lies in the row: those that did, and those that were pushed. -/
theorem push_wait : ∀ (l : List Nat) (s : List Bool × List Nat) (n : Nat), (push l s).1.getD n false = true → s.1.getD n false = true ∨ ∃ t, (push l s).2 = s.2 ++ t ∧ n ∈ t
  | [], _, _, h => Or.inl h
  | k :: l, s, n, h => by
    unfold push at h ⊢
    by_cases q : s.1.getD k false = true
    · rw [if_pos q] at h ⊢; exact push_wait l s n h
    · rw [if_neg q] at h ⊢
      obtain ⟨t0, ht0, _⟩ := push_pre l (s.1.set k true, s.2 ++ [k])
      rcases push_wait l _ n h with h | ⟨t, ht, hn⟩
      · by_cases e : k = n
        · subst e; exact Or.inr ⟨k :: t0, by rw [ht0]; simp, List.mem_cons_self⟩
        · left; rw [← h]; exact (getD_set_ne _ _ _ _ _ e).symm
      · exact Or.inr ⟨k :: t, by rw [ht]; simp, List.mem_cons_of_mem _ hn⟩
/-- The solver's state. -/
structure St where
  i : List V
  o : List V
  wt : List Bool
  row : List Nat
def Sys.step (P : Sys) (s : St) (n : Nat) : St :=
  if P.flow n (P.vin s.o n) = s.o.getD n P.bot then ⟨s.i.set n (P.vin s.o n), s.o, s.wt.set n false, s.row⟩
  else ⟨s.i.set n (P.vin s.o n), s.o.set n (P.flow n (P.vin s.o n)), (push (succs P.E n) (s.wt.set n false, s.row)).1, (push (succs P.E n) (s.wt.set n false, s.row)).2⟩
structure Sys.Inv (P : Sys) (s : St) (k : Nat) : Prop where
  li : s.i.length = P.N
  lo : s.o.length = P.N
  lw : s.wt.length = P.N
  rl : ∀ x ∈ s.row, x < P.N
  kl : k ≤ s.row.length
  wait : ∀ n, s.wt.getD n false = true → n ∈ s.row.drop k
  cons : ∀ n, n < P.N → s.wt.getD n false = false → s.i.getD n P.bot = P.vin s.o n ∧ s.o.getD n P.bot = P.flow n (P.vin s.o n)
  up : ∀ n, n < P.N → P.le (s.o.getD n P.bot) (P.flow n (P.vin s.o n))
  least : ∀ q, P.Fix q → ∀ n, n < P.N → P.le (s.o.getD n P.bot) (q.getD n P.bot)
  len : s.row.length ≤ P.N + P.hs s.o P.E
theorem getD_rep {α : Type} (n k : Nat) (d x : α) (h : k < n) : (List.replicate n x).getD k d = x := by
  rw [List.getD_eq_getElem?_getD, List.getElem?_replicate, if_pos h]; rfl
theorem getD_repV (n k : Nat) (x : V) : (List.replicate n x).getD k x = x := by
  by_cases h : k < n
  · exact getD_rep n k x x h
  · rw [getD_over _ _ _ (by simp; omega)]
theorem Sys.Inv.begin {P : Sys} (K : P.Ok) : P.Inv ⟨List.replicate P.N P.bot, List.replicate P.N P.bot, List.replicate P.N true, List.range P.N⟩ 0 where
  li := by simp
  lo := by simp
  lw := by simp
  rl := fun x hx => List.mem_range.1 hx
  kl := Nat.zero_le _
  wait := fun n hn => by
    rw [List.drop_zero]
    refine List.mem_range.2 (Classical.byContradiction fun h => ?_)
    have : (List.replicate P.N true).getD n false = false := getD_over _ _ _ (by simp; omega)
    rw [this] at hn; cases hn
  cons := fun n hn h => by
    have : (List.replicate P.N true).getD n false = true := getD_rep _ _ _ _ hn
    rw [this] at h; cases h
  up := fun n hn => by
    show P.le ((List.replicate P.N P.bot).getD n P.bot) _
    rw [getD_repV]; exact K.bl _
  least := fun q hq n hn => by
    show P.le ((List.replicate P.N P.bot).getD n P.bot) _
    rw [getD_repV]; exact K.bl _
  len := by simp
theorem mem_drop_succ {l : List Nat} {k n x : Nat} (hk : k < l.length) (h : x ∈ l.drop k) (hn : l.getD k 0 = n) (hx : x ≠ n) : x ∈ l.drop (k + 1) := by
  rw [List.drop_eq_getElem_cons hk] at h
  rcases List.mem_cons.1 h with h | h
  · exact absurd (h.trans (by rw [← hn, List.getD_eq_getElem?_getD, List.getElem?_eq_getElem hk]; rfl)) hx
  · exact h
theorem getD_mem {l : List Nat} {k : Nat} (hk : k < l.length) : l.getD k 0 ∈ l := by
  rw [List.getD_eq_getElem?_getD, List.getElem?_eq_getElem hk]; exact List.getElem_mem hk
theorem Sys.Inv.step {P : Sys} (K : P.Ok) {s : St} {k : Nat} (I : P.Inv s k) (hk : k < s.row.length) : P.Inv (P.step s (s.row.getD k 0)) (k + 1) := by
  have hn : s.row.getD k 0 < P.N := I.rl _ (getD_mem hk)
  have hnn : s.row.getD k 0 = s.row.getD k 0 := rfl
  generalize hx : s.row.getD k 0 = n at hn hnn
  clear hnn
  have hw : ∀ m, (s.wt.set n false).getD m false = true → m ∈ s.row.drop (k + 1) := by
    intro m hm
    by_cases e : n = m
    · subst e; rw [getD_set_eq _ _ _ _ (by rw [I.lw]; exact hn)] at hm; cases hm
    · rw [getD_set_ne _ _ _ _ _ e] at hm
      exact mem_drop_succ hk (I.wait m hm) hx (fun q => e q.symm)
  unfold Sys.step
  by_cases q : P.flow n (P.vin s.o n) = s.o.getD n P.bot
  · rw [if_pos q]
    refine ⟨by simpa using I.li, I.lo, by simpa using I.lw, I.rl, hk, hw, ?_, I.up, I.least, I.len⟩
    intro m hm hf
    show (s.i.set n (P.vin s.o n)).getD m P.bot = _ ∧ _
    by_cases e : n = m
    · subst e
      exact ⟨getD_set_eq _ _ _ _ (by rw [I.li]; exact hn), q.symm⟩
    · rw [getD_set_ne _ _ _ _ _ e]
      exact I.cons m hm ((getD_set_ne _ _ _ _ _ e).symm.trans hf)
  · rw [if_neg q]
    have hno : n < s.o.length := by rw [I.lo]; exact hn
    have hup := I.up n hn
    have hle := le_set K hno hup
    have hvm := vin_mono P K _ _ hle
    have hrk : P.rank (s.o.getD n P.bot) + 1 ≤ P.rank (P.flow n (P.vin s.o n)) := K.rk hup (fun z => q z.symm)
    obtain ⟨t, ht, htm⟩ := push_pre (succs P.E n) (s.wt.set n false, s.row)
    have ht' : (push (succs P.E n) (s.wt.set n false, s.row)).2 = s.row ++ t := ht
    have hpl := push_len (succs P.E n) (s.wt.set n false, s.row)
    refine ⟨by simpa using I.li, by simpa using I.lo, hpl.1.trans (by simpa using I.lw), ?_, ?_, ?_, ?_, ?_, ?_, ?_⟩
    · intro x hx'
      rw [show (St.row _) = s.row ++ t from ht'] at hx'
      rcases List.mem_append.1 hx' with h | h
      · exact I.rl x h
      · exact succs_lt K (htm x h)
    · show k + 1 ≤ (push (succs P.E n) (s.wt.set n false, s.row)).2.length
      rw [ht', List.length_append]; omega
    · intro m hm
      show m ∈ ((push (succs P.E n) (s.wt.set n false, s.row)).2).drop (k + 1)
      rcases push_wait _ _ m hm with h | ⟨t', h1, h2⟩
      · rw [ht', List.drop_append_of_le_length (by omega)]
        exact List.mem_append_left _ (hw m h)
      · rw [h1]
        show m ∈ (s.row ++ t').drop (k + 1)
        rw [List.drop_append_of_le_length (by omega)]
        exact List.mem_append_right _ h2
    · intro m hm hf
      have hf' : (push (succs P.E n) (s.wt.set n false, s.row)).1.getD m false = false := hf
      have hns : m ∉ succs P.E n := by
        intro h
        rw [push_on _ _ m (by simp [I.lw]; exact hm) h] at hf'; cases hf'
      have hnp : n ∉ preds P.E m := fun h => hns (mem_succs h)
      show (s.i.set n (P.vin s.o n)).getD m P.bot = P.vin (s.o.set n _) m ∧ (s.o.set n _).getD m P.bot = P.flow m (P.vin (s.o.set n _) m)
      rw [vin_set P _ _ _ _ hnp]
      by_cases e : n = m
      · subst e
        exact ⟨getD_set_eq _ _ _ _ (by rw [I.li]; exact hn), getD_set_eq _ _ _ _ hno⟩
      · rw [getD_set_ne _ _ _ _ _ e, getD_set_ne _ _ _ _ _ e]
        refine I.cons m hm ?_
        cases hz : s.wt.getD m false
        · rfl
        · have : (push (succs P.E n) (s.wt.set n false, s.row)).1.getD m false = true := push_stay _ _ m (by simp [I.lw]; exact hm) ((getD_set_ne _ _ _ _ _ e).trans hz)
          rw [this] at hf'; cases hf'
    · intro m hm
      show P.le ((s.o.set n _).getD m P.bot) (P.flow m (P.vin (s.o.set n _) m))
      by_cases e : n = m
      · subst e; rw [getD_set_eq _ _ _ _ hno]; exact K.fm n (hvm n)
      · rw [getD_set_ne _ _ _ _ _ e]; exact K.trans (I.up m hm) (K.fm m (hvm m))
    · intro z hz m hm
      show P.le ((s.o.set n _).getD m P.bot) _
      by_cases e : n = m
      · subst e
        rw [getD_set_eq _ _ _ _ hno, hz.2 n hn]
        exact K.fm n (vin_mono P K _ _ (le_getD K I.lo hz.1 (I.least z hz)) n)
      · rw [getD_set_ne _ _ _ _ _ e]; exact I.least z hz m hm
    · show (push (succs P.E n) (s.wt.set n false, s.row)).2.length ≤ P.N + P.hs (s.o.set n _) P.E
      have h1 := hs_set K s.o n _ hno hrk P.E
      have h2 := hpl.2
      have h3 := I.len
      have h4 : (push (succs P.E n) (s.wt.set n false, s.row)).2.length ≤ s.row.length + (succs P.E n).length := h2
      omega
theorem Sys.Inv.short {P : Sys} (K : P.Ok) {s : St} {k : Nat} (I : P.Inv s k) : s.row.length ≤ P.N + 64 * P.E.length := Nat.le_trans I.len (Nat.add_le_add_left (hs_le K _ _) _)
theorem Sys.Inv.done {P : Sys} {s : St} (I : P.Inv s s.row.length) : P.Lfp s.i s.o := by
  have h : ∀ n, s.wt.getD n false = false := by
    intro n
    cases hz : s.wt.getD n false
    · rfl
    · have := I.wait n hz
      rw [List.drop_length] at this; cases this
  exact ⟨I.li, I.lo, fun n hn => (I.cons n hn (h n)).1, fun n hn => (I.cons n hn (h n)).2, I.least⟩
/-- The answer by rounds: a node's turn. -/
structure Sys.Rnd (P : Sys) (i o : List V) : Prop where
  li : i.length = P.N
  lo : o.length = P.N
  ui : ∀ n, n < P.N → P.le (i.getD n P.bot) (P.vin o n)
  up : ∀ n, n < P.N → P.le (o.getD n P.bot) (P.flow n (P.vin o n))
  least : ∀ q, P.Fix q → ∀ n, n < P.N → P.le (o.getD n P.bot) (q.getD n P.bot)
theorem Sys.Rnd.begin {P : Sys} (K : P.Ok) : P.Rnd (List.replicate P.N P.bot) (List.replicate P.N P.bot) :=
  ⟨by simp, by simp, fun n _ => by rw [getD_repV]; exact K.bl _, fun n _ => by rw [getD_repV]; exact K.bl _, fun q _ n _ => by rw [getD_repV]; exact K.bl _⟩
def Sys.rs (P : Sys) (l : List V) : Nat := (l.map P.rank).sum
theorem rs_le {P : Sys} (K : P.Ok) : ∀ l : List V, P.rs l ≤ 64 * l.length
  | [] => Nat.le_refl _
  | x :: l => by
    have h := rs_le K l
    have := K.rb x
    simp only [Sys.rs, List.map_cons, List.sum_cons, List.length_cons] at h ⊢
    omega
theorem rs_set {P : Sys} : ∀ (l : List V) (n : Nat) (w : V), n < l.length → P.rs (l.set n w) + P.rank (l.getD n P.bot) = P.rs l + P.rank w
  | x :: l, 0, w, _ => by simp only [Sys.rs, List.set_cons_zero, List.map_cons, List.sum_cons, List.getD_cons_zero]; omega
  | x :: l, n + 1, w, h => by
    have := rs_set (P := P) l n w (by simpa using h)
    simp only [Sys.rs, List.set_cons_succ, List.map_cons, List.sum_cons, List.getD_cons_succ] at this ⊢
    omega
theorem set_getD_self {l : List V} {n : Nat} {w d : V} (hn : n < l.length) (h : w = l.getD n d) : l.set n w = l := by
  refine getD_ext d _ _ (by simp) fun m hm => ?_
  by_cases e : n = m
  · subst e; rw [getD_set_eq _ _ _ _ hn, h]
  · rw [getD_set_ne _ _ _ _ _ e]
theorem Sys.Rnd.turn {P : Sys} (K : P.Ok) {i o : List V} (I : P.Rnd i o) {n : Nat} (hn : n < P.N) :
    P.Rnd (i.set n (P.vin o n)) (o.set n (P.flow n (P.vin o n))) ∧ P.rs i + P.rs o ≤ P.rs (i.set n (P.vin o n)) + P.rs (o.set n (P.flow n (P.vin o n))) ∧
      (P.vin o n ≠ i.getD n P.bot ∨ P.flow n (P.vin o n) ≠ o.getD n P.bot → P.rs i + P.rs o < P.rs (i.set n (P.vin o n)) + P.rs (o.set n (P.flow n (P.vin o n)))) := by
  have hno : n < o.length := by rw [I.lo]; exact hn
  have hni : n < i.length := by rw [I.li]; exact hn
  have hle := le_set K hno (I.up n hn)
  have hvm := vin_mono P K _ _ hle
  have e1 := rs_set (P := P) i n (P.vin o n) hni
  have e2 := rs_set (P := P) o n (P.flow n (P.vin o n)) hno
  have r1 : P.rank (i.getD n P.bot) ≤ P.rank (P.vin o n) ∧ (P.vin o n ≠ i.getD n P.bot → P.rank (i.getD n P.bot) < P.rank (P.vin o n)) := by
    refine ⟨?_, fun h => K.rk (I.ui n hn) (fun z => h z.symm)⟩
    by_cases z : i.getD n P.bot = P.vin o n
    · rw [z]; exact Nat.le_refl _
    · exact Nat.le_of_lt (K.rk (I.ui n hn) z)
  have r2 : P.rank (o.getD n P.bot) ≤ P.rank (P.flow n (P.vin o n)) ∧ (P.flow n (P.vin o n) ≠ o.getD n P.bot → P.rank (o.getD n P.bot) < P.rank (P.flow n (P.vin o n))) := by
    refine ⟨?_, fun h => K.rk (I.up n hn) (fun z => h z.symm)⟩
    by_cases z : o.getD n P.bot = P.flow n (P.vin o n)
    · rw [← z]; exact Nat.le_refl _
    · exact Nat.le_of_lt (K.rk (I.up n hn) z)
  refine ⟨⟨by simpa using I.li, by simpa using I.lo, ?_, ?_, ?_⟩, by omega, fun h => ?_⟩
  · intro m hm
    by_cases e : n = m
    · subst e; rw [getD_set_eq _ _ _ _ hni]; exact hvm n
    · rw [getD_set_ne _ _ _ _ _ e]; exact K.trans (I.ui m hm) (hvm m)
  · intro m hm
    by_cases e : n = m
    · subst e; rw [getD_set_eq _ _ _ _ hno]; exact K.fm n (hvm n)
    · rw [getD_set_ne _ _ _ _ _ e]; exact K.trans (I.up m hm) (K.fm m (hvm m))
  · intro z hz m hm
    by_cases e : n = m
    · subst e
      rw [getD_set_eq _ _ _ _ hno, hz.2 n hn]
      exact K.fm n (vin_mono P K _ _ (le_getD K I.lo hz.1 (I.least z hz)) n)
    · rw [getD_set_ne _ _ _ _ _ e]; exact I.least z hz m hm
  · rcases h with h | h
    · have := r1.2 h; omega
    · have := r2.2 h; omega
theorem Sys.Rnd.done {P : Sys} {i o : List V} (I : P.Rnd i o) (h : ∀ n, n < P.N → i.getD n P.bot = P.vin o n ∧ o.getD n P.bot = P.flow n (P.vin o n)) : P.Lfp i o :=
  ⟨I.li, I.lo, fun n hn => (h n hn).1, fun n hn => (h n hn).2, I.least⟩
end Go.Proofs.Ytfdhpogpeajifaa.Lat
