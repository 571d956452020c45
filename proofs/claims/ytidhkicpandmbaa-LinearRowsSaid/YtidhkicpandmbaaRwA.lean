/- Rows of blocks as plain lists: what links make, what the row is. -/
import Derived.Lib.Hide
namespace Go.Proofs.Ytidhkicpandmbaa.RwA
set_option linter.unusedVariables false
set_option linter.unusedSimpArgs false
set_option linter.unusedSectionVars false
/-- A row of blocks, told by coordinates: each block's head, its place behind it, each head's length. -/
structure Co (n : Nat) (a b : List Int) (hd ix ln : Nat → Nat) : Prop where
  l1 : a.length = n
  l2 : b.length = n
  h1 : ∀ x, x < n → hd x < n
  h2 : ∀ x, x < n → hd (hd x) = hd x
  h3 : ∀ x, x < n → ix x = 0 → hd x = x
  lt : ∀ x, x < n → ix x < ln (hd x)
  inj : ∀ x y, x < n → y < n → hd x = hd y → ix x = ix y → x = y
  nx : ∀ x, x < n → (a.getD x 0 = -1 ∧ ix x + 1 = ln (hd x)) ∨ ∃ y, y < n ∧ a.getD x 0 = (y : Int) ∧ hd y = hd x ∧ ix y = ix x + 1
  ah : ∀ x, x < n → (b.getD x 0 = -1 ∧ ix x = 0) ∨ ∃ y, y < n ∧ b.getD x 0 = (y : Int) ∧ hd y = hd x ∧ ix x = ix y + 1
theorem getD_set {α : Type} (l : List α) (i j : Nat) (v d : α) (h : i < l.length) : (l.set i v).getD j d = if j = i then v else l.getD j d := by
  by_cases e : j = i
  · subst e; simp [List.getD_eq_getElem?_getD, h]
  · rw [if_neg e]; simp only [List.getD_eq_getElem?_getD]; rw [List.getElem?_set_ne (fun h => e h.symm)]
theorem Co.start (n : Nat) : Co n (List.replicate n (-1)) (List.replicate n (-1)) id (fun _ => 0) (fun _ => 1) where
  l1 := by simp
  l2 := by simp
  h1 := fun x h => h
  h2 := fun _ _ => rfl
  h3 := fun _ _ _ => rfl
  lt := fun _ _ => by simp
  inj := fun x y _ _ h _ => h
  nx := fun x h => .inl ⟨by simp [List.getD_eq_getElem?_getD, h], rfl⟩
  ah := fun x h => .inl ⟨by simp [List.getD_eq_getElem?_getD, h], rfl⟩
theorem Co.head0 {n : Nat} {a b : List Int} {hd ix ln : Nat → Nat} (c : Co n a b hd ix ln) (x : Nat) (h : x < n) : ix (hd x) = 0 := by
  rcases c.ah (hd x) (c.h1 x h) with ⟨_, e⟩ | ⟨y, hy, _, e1, e2⟩
  · exact e
  · rw [c.h2 x h] at e1
    have k : ∀ m y, y < n → hd y = hd x → ix y ≤ m → ∃ z, z < n ∧ hd z = hd x ∧ ix z = 0 := by
      intro m
      induction m with
      | zero => intro y hy h1 h2; exact ⟨y, hy, h1, by omega⟩
      | succ m ih =>
        intro y hy h1 h2
        rcases c.ah y hy with ⟨_, e⟩ | ⟨z, hz, _, f1, f2⟩
        · exact ⟨y, hy, h1, e⟩
        · exact ih z hz (f1.trans h1) (by omega)
    obtain ⟨z, hz, z1, z2⟩ := k (ix y) y hy e1 (Nat.le_refl _)
    have := c.h3 z hz z2
    rw [← z1, this, z2]
theorem Co.ahn {n : Nat} {a b : List Int} {hd ix ln : Nat → Nat} (c : Co n a b hd ix ln) (x : Nat) (h : x < n) (e : b.getD x 0 < 0) : hd x = x ∧ ix x = 0 := by
  rcases c.ah x h with ⟨_, e2⟩ | ⟨y, _, e2, _⟩
  · exact ⟨c.h3 x h e2, e2⟩
  · omega
theorem Co.link {n : Nat} {a b : List Int} {hd ix ln : Nat → Nat} (c : Co n a b hd ix ln) (p t : Nat) (hp : p < n) (ht : t < n) (e1 : a.getD p 0 < 0) (e2 : b.getD t 0 < 0) (e3 : hd p ≠ t) :
    Co n (a.set p (t : Int)) (b.set t (p : Int)) (fun x => if hd x = t then hd p else hd x) (fun x => if hd x = t then ix x + ln (hd p) else ix x) (fun x => if x = hd p then ln (hd p) + ln t else ln x) := by
  obtain ⟨t1, t2⟩ := c.ahn t ht e2
  have p1 : ix p + 1 = ln (hd p) := by rcases c.nx p hp with ⟨_, e⟩ | ⟨y, _, e, _⟩; exact e; omega
  have hhp := c.h2 p hp
  have hpn := c.h1 p hp
  have hp0 := c.head0 p hp
  refine ⟨by simp [c.l1], by simp [c.l2], ?_, ?_, ?_, ?_, ?_, ?_, ?_⟩
  · intro x hx; have := c.h1 x hx; (try dsimp only); split <;> assumption
  · intro x hx
    have := c.h2 x hx
    try dsimp only
    by_cases h : hd x = t
    · simp only [h, if_pos]; rw [hhp, if_neg e3]
    · simp only [h, if_false]; rw [this, if_neg h]
  · intro x hx
    try dsimp only
    by_cases h : hd x = t
    · simp only [h, if_pos]; omega
    · simp only [h, if_false]; exact c.h3 x hx
  · intro x hx
    have := c.lt x hx
    try dsimp only
    by_cases h : hd x = t
    · simp only [h, if_pos]; rw [h] at this; omega
    · simp only [h, if_false]; split
      · rename_i hh; rw [hh] at this; omega
      · exact this
  · intro x y hx hy
    try dsimp only
    have i0 := c.inj x y hx hy
    have lx := c.lt x hx
    have ly := c.lt y hy
    by_cases h : hd x = t <;> by_cases g : hd y = t
    · simp only [h, g, if_pos]; intro _ hh; exact i0 (h.trans g.symm) (by omega)
    · simp only [h, g, if_pos, if_false]; intro q hh; rw [← q] at ly; omega
    · simp only [h, g, if_pos, if_false]; intro q hh; rw [q] at lx; omega
    · simp only [h, g, if_false]; exact i0
  · intro x hx
    try dsimp only
    rw [getD_set _ _ _ _ _ (by rw [c.l1]; exact hp)]
    by_cases hxp : x = p
    · subst hxp
      rw [if_pos rfl]
      refine .inr ⟨t, ht, rfl, ?_, ?_⟩
      · simp only [t1, if_pos, e3, if_false]
      · simp only [t1, if_pos, e3, if_false]; omega
    · rw [if_neg hxp]
      have lx := c.lt x hx
      rcases c.nx x hx with ⟨q1, q2⟩ | ⟨y, hy, q1, q2, q3⟩
      · refine .inl ⟨q1, ?_⟩
        by_cases h : hd x = t
        · simp only [h, if_pos]; rw [h] at q2; omega
        · simp only [h, if_false]
          by_cases hh : hd x = hd p
          · exact absurd (c.inj x p hx hp hh (by rw [hh] at q2; omega)) hxp
          · rw [if_neg hh]; exact q2
      · refine .inr ⟨y, hy, q1, ?_, ?_⟩
        · rw [q2]
        · rw [q2]; split <;> omega
  · intro x hx
    try dsimp only
    rw [getD_set _ _ _ _ _ (by rw [c.l2]; exact ht)]
    by_cases hxt : x = t
    · subst hxt
      rw [if_pos rfl]
      refine .inr ⟨p, hp, rfl, ?_, ?_⟩
      · simp only [t1, if_pos, e3, if_false]
      · simp only [t1, if_pos, e3, if_false]; omega
    · rw [if_neg hxt]
      rcases c.ah x hx with ⟨q1, q2⟩ | ⟨y, hy, q1, q2, q3⟩
      · refine .inl ⟨q1, ?_⟩
        have := c.h3 x hx q2
        rw [if_neg (by omega)]; exact q2
      · refine .inr ⟨y, hy, q1, ?_, ?_⟩
        · rw [q2]
        · rw [q2]; split <;> omega
/-- A run's blocks from one on. -/
def chainL (a : List Int) : Nat → Int → List Int
  | 0, _ => []
  | k + 1, x => if 0 ≤ x then x :: chainL a k (a.getD x.toNat 0) else []
theorem Co.chain {n : Nat} {a b : List Int} {hd ix ln : Nat → Nat} (c : Co n a b hd ix ln) : ∀ (m : Nat) (x : Nat), x < n → ln (hd x) - ix x = m → ∀ k, m ≤ k →
    (chainL a k x).length = m ∧ ∀ j, j < m → ∃ y, y < n ∧ (chainL a k x).getD j 0 = (y : Int) ∧ hd y = hd x ∧ ix y = ix x + j
  | 0, x, hx, hm, k, hk => by have := c.lt x hx; omega
  | m + 1, x, hx, hm, k, hk => by
    obtain ⟨k, rfl⟩ : ∃ k', k = k' + 1 := ⟨k - 1, by omega⟩
    have lx := c.lt x hx
    have e : chainL a (k + 1) x = (x : Int) :: chainL a k (a.getD x 0) := by
      show (if (0 : Int) ≤ x then _ else _) = _
      rw [if_pos (by omega)]; rfl
    rw [e]
    rcases c.nx x hx with ⟨q1, q2⟩ | ⟨y, hy, q1, q2, q3⟩
    · have hm0 : m = 0 := by omega
      subst hm0
      have : chainL a k (a.getD x 0) = [] := by rw [q1]; cases k <;> rfl
      rw [this]
      refine ⟨rfl, fun j hj => ?_⟩
      obtain rfl : j = 0 := by omega
      exact ⟨x, hx, rfl, rfl, rfl⟩
    · rw [q1]
      obtain ⟨i1, i2⟩ := c.chain m y hy (by rw [q2]; omega) k (by omega)
      refine ⟨by simp [i1], fun j hj => ?_⟩
      cases j with
      | zero => exact ⟨x, hx, rfl, rfl, rfl⟩
      | succ j =>
        obtain ⟨z, hz, z1, z2, z3⟩ := i2 j (by omega)
        exact ⟨z, hz, by simpa using z1, z2.trans q2, by omega⟩
def outTo (r : List Bool) (a b : List Int) (ln : Nat → Nat) : Nat → List Int
  | 0 => []
  | i + 1 => outTo r a b ln i ++ (if r.getD i false = true ∧ b.getD i 0 < 0 then chainL a (ln i) i else [])
theorem getD_app {α : Type} (l k : List α) (i : Nat) (d : α) : (l ++ k).getD i d = if i < l.length then l.getD i d else k.getD (i - l.length) d := by
  simp only [List.getD_eq_getElem?_getD]
  split
  · rw [List.getElem?_append_left (by omega)]
  · rw [List.getElem?_append_right (by omega)]
theorem mem_getD {l : List Int} {x : Int} (h : x ∈ l) : ∃ j, j < l.length ∧ l.getD j 0 = x := by
  obtain ⟨j, hj, e⟩ := List.getElem_of_mem h
  exact ⟨j, hj, by simp [List.getD_eq_getElem?_getD, hj, e]⟩
theorem getD_mem0 {l : List Int} {j : Nat} (h : j < l.length) : l.getD j 0 ∈ l := by
  simp [List.getD_eq_getElem?_getD, h]
theorem Co.root {n : Nat} {a b : List Int} {hd ix ln : Nat → Nat} (c : Co n a b hd ix ln) (x : Nat) (h : x < n) : b.getD x 0 < 0 ↔ hd x = x := by
  constructor
  · intro e; exact (c.ahn x h e).1
  · intro e
    rcases c.ah x h with ⟨q, _⟩ | ⟨y, _, _, _, q⟩
    · omega
    · have := c.head0 x h; rw [e] at this; omega
/-- A root's run. -/
theorem Co.run {n : Nat} {a b : List Int} {hd ix ln : Nat → Nat} (c : Co n a b hd ix ln) (i : Nat) (h : i < n) (e : b.getD i 0 < 0) :
    (chainL a (ln i) i).length = ln i ∧ 0 < ln i ∧ (∀ j, j < ln i → ∃ y, y < n ∧ (chainL a (ln i) i).getD j 0 = (y : Int) ∧ hd y = i ∧ ix y = j) := by
  obtain ⟨h1, h2⟩ := c.ahn i h e
  have lt := c.lt i h
  rw [h1, h2] at lt
  obtain ⟨q1, q2⟩ := c.chain (ln i) i h (by rw [h1, h2]; rfl) (ln i) (Nat.le_refl _)
  refine ⟨q1, lt, fun j hj => ?_⟩
  obtain ⟨y, hy, e1, e2, e3⟩ := q2 j hj
  exact ⟨y, hy, e1, by omega, by omega⟩
theorem Co.run_mem {n : Nat} {a b : List Int} {hd ix ln : Nat → Nat} (c : Co n a b hd ix ln) (i : Nat) (h : i < n) (e : b.getD i 0 < 0) (y : Int) :
    y ∈ chainL a (ln i) i ↔ ∃ x, x < n ∧ y = (x : Int) ∧ hd x = i := by
  obtain ⟨q1, q2, q3⟩ := c.run i h e
  constructor
  · intro m
    obtain ⟨j, hj, ej⟩ := mem_getD m
    obtain ⟨x, hx, e1, e2, _⟩ := q3 j (by omega)
    exact ⟨x, hx, by rw [← ej, e1], e2⟩
  · rintro ⟨x, hx, rfl, e2⟩
    have lx := c.lt x hx
    rw [e2] at lx
    obtain ⟨z, hz, z1, z2, z3⟩ := q3 (ix x) lx
    have : z = x := c.inj z x hz hx (by omega) z3
    subst this
    rw [← z1]; exact getD_mem0 (by omega)
theorem Co.out_mem {n : Nat} {a b : List Int} {hd ix ln : Nat → Nat} (c : Co n a b hd ix ln) (r : List Bool) (y : Int) : ∀ i, i ≤ n →
    (y ∈ outTo r a b ln i ↔ ∃ x, x < n ∧ y = (x : Int) ∧ hd x < i ∧ r.getD (hd x) false = true)
  | 0, _ => by simp [outTo]
  | i + 1, h => by
    show y ∈ outTo r a b ln i ++ _ ↔ _
    rw [List.mem_append, c.out_mem r y i (by omega)]
    by_cases g : r.getD i false = true ∧ b.getD i 0 < 0
    · rw [if_pos g, c.run_mem i (by omega) g.2]
      constructor
      · rintro (⟨x, hx, e, h1, h2⟩ | ⟨x, hx, e, h1⟩)
        · exact ⟨x, hx, e, by omega, h2⟩
        · exact ⟨x, hx, e, by omega, by rw [h1]; exact g.1⟩
      · rintro ⟨x, hx, e, h1, h2⟩
        by_cases k : hd x = i
        · exact .inr ⟨x, hx, e, k⟩
        · exact .inl ⟨x, hx, e, by omega, h2⟩
    · rw [if_neg g]
      simp only [List.not_mem_nil, or_false]
      constructor
      · rintro ⟨x, hx, e, h1, h2⟩; exact ⟨x, hx, e, by omega, h2⟩
      · rintro ⟨x, hx, e, h1, h2⟩
        refine ⟨x, hx, e, ?_, h2⟩
        by_cases k : hd x = i
        · refine absurd ⟨by rw [← k]; exact h2, ?_⟩ g
          rw [c.root i (by omega), ← k]; exact c.h2 x hx
        · omega
theorem nodup_getD {l : List Int} (h : ∀ i j, i < l.length → j < l.length → l.getD i 0 = l.getD j 0 → i = j) : l.Nodup := by
  rw [List.nodup_iff_pairwise_ne, List.pairwise_iff_getElem]
  intro i j hi hj hlt e
  have := h i j hi hj (by simp [List.getD_eq_getElem?_getD, hi, hj, e])
  omega
theorem nodup_inj {l : List Int} (h : l.Nodup) {i j : Nat} (hi : i < l.length) (hj : j < l.length) (e : l.getD i 0 = l.getD j 0) : i = j := by
  rw [← List.getElem?_inj hi h]
  simpa [List.getD_eq_getElem?_getD, hi, hj] using e
theorem Co.out_nodup {n : Nat} {a b : List Int} {hd ix ln : Nat → Nat} (c : Co n a b hd ix ln) (r : List Bool) : ∀ i, i ≤ n → (outTo r a b ln i).Nodup
  | 0, _ => by simp [outTo]
  | i + 1, h => by
    show (outTo r a b ln i ++ _).Nodup
    rw [List.nodup_append]
    refine ⟨c.out_nodup r i (by omega), ?_, ?_⟩
    · by_cases g : r.getD i false = true ∧ b.getD i 0 < 0
      · rw [if_pos g]
        obtain ⟨q1, _, q3⟩ := c.run i (by omega) g.2
        refine nodup_getD fun p q hp hq e => ?_
        obtain ⟨x, _, x1, _, x3⟩ := q3 p (by omega)
        obtain ⟨y, _, y1, _, y3⟩ := q3 q (by omega)
        have : x = y := by omega
        subst this
        omega
      · rw [if_neg g]; simp
    · intro p hp q hq
      by_cases g : r.getD i false = true ∧ b.getD i 0 < 0
      · rw [if_pos g, c.run_mem i (by omega) g.2] at hq
        obtain ⟨x, hx, rfl, x1, _⟩ := (c.out_mem r p i (by omega)).1 hp
        obtain ⟨y, hy, rfl, y1⟩ := hq
        intro e
        have : x = y := by omega
        subst this
        omega
      · rw [if_neg g] at hq; simp at hq
structure Adj (a b : List Int) (l : List Int) : Prop where
  st : ∀ j, j + 1 < l.length → a.getD (l.getD j 0).toNat 0 = l.getD (j + 1) 0 ∨ (a.getD (l.getD j 0).toNat 0 < 0 ∧ b.getD (l.getD (j + 1) 0).toNat 0 < 0)
  fst : 0 < l.length → b.getD (l.getD 0 0).toNat 0 < 0
  lst : 0 < l.length → a.getD (l.getD (l.length - 1) 0).toNat 0 < 0
theorem Adj.app {a b l k : List Int} (h : Adj a b l) (g : Adj a b k) : Adj a b (l ++ k) := by
  refine ⟨?_, ?_, ?_⟩
  · intro j hj
    rw [List.length_append] at hj
    rw [getD_app, getD_app]
    by_cases h1 : j + 1 < l.length
    · rw [if_pos (by omega), if_pos h1]; exact h.st j h1
    · rw [if_neg h1]
      by_cases h2 : j < l.length
      · rw [if_pos h2]
        refine .inr ⟨?_, ?_⟩
        · have := h.lst (by omega)
          rwa [show l.length - 1 = j by omega] at this
        · have := g.fst (by omega)
          rwa [show j + 1 - l.length = 0 by omega]
      · rw [if_neg h2, show j + 1 - l.length = (j - l.length) + 1 by omega]
        exact g.st _ (by omega)
  · intro h0
    rw [List.length_append] at h0
    rw [getD_app]
    by_cases h1 : 0 < l.length
    · rw [if_pos h1]; exact h.fst h1
    · rw [if_neg h1, show 0 - l.length = 0 by omega]; exact g.fst (by omega)
  · intro h0
    rw [List.length_append] at h0 ⊢
    rw [getD_app]
    by_cases h1 : 0 < k.length
    · rw [if_neg (by omega), show l.length + k.length - 1 - l.length = k.length - 1 by omega]; exact g.lst h1
    · rw [if_pos (by omega), show l.length + k.length - 1 = l.length - 1 by omega]; exact h.lst (by omega)
theorem Co.adj {n : Nat} {a b : List Int} {hd ix ln : Nat → Nat} (c : Co n a b hd ix ln) (r : List Bool) : ∀ i, i ≤ n → Adj a b (outTo r a b ln i)
  | 0, _ => ⟨fun _ h => by simp [outTo] at h, fun h => by simp [outTo] at h, fun h => by simp [outTo] at h⟩
  | i + 1, h => by
    refine (c.adj r i (by omega)).app ?_
    by_cases g : r.getD i false = true ∧ b.getD i 0 < 0
    · rw [if_pos g]
      obtain ⟨q1, q2, q3⟩ := c.run i (by omega) g.2
      refine ⟨?_, ?_, ?_⟩
      · intro j hj
        obtain ⟨x, hx, x1, x2, x3⟩ := q3 j (by omega)
        obtain ⟨y, hy, y1, y2, y3⟩ := q3 (j + 1) (by omega)
        rw [x1, y1]
        rcases c.nx x hx with ⟨_, e⟩ | ⟨z, hz, e1, e2, e3⟩
        · rw [x2] at e; omega
        · have : z = y := c.inj z y hz hy (by omega) (by omega)
          subst this
          exact .inl e1
      · intro _
        obtain ⟨x, hx, x1, x2, x3⟩ := q3 0 q2
        rw [x1]
        have : x = i := by have := c.h3 x hx x3; omega
        subst this
        exact g.2
      · intro _
        obtain ⟨x, hx, x1, x2, x3⟩ := q3 (ln i - 1) (by omega)
        rw [q1, x1]
        rcases c.nx x hx with ⟨e, _⟩ | ⟨z, hz, e1, e2, e3⟩
        · show a.getD x 0 < 0; omega
        · have := c.lt z hz; rw [e2, x2] at this; omega
    · rw [if_neg g]
      exact ⟨fun _ h => by simp at h, fun h => by simp at h, fun h => by simp at h⟩
def fallsP (To : Nat → List Int) (out : List Int) (p : Int) : Bool := decide (1 ≤ p) && (decide (p < out.length) && (To (out.getD (p - 1).toNat 0).toNat).contains (out.getD p.toNat 0))
def beginP (To : Nat → List Int) (out : List Int) : Nat → Nat
  | 0 => 0
  | k + 1 => if 0 < k ∧ fallsP To out (k : Int) = true then beginP To out k else k + 1
/-- What a row is. -/
structure RowIs (n : Nat) (To : Nat → List Int) (En : Nat → Int) (r : List Bool) (a b : List Int) (hd ix ln : Nat → Nat) : Prop where
  co : Co n a b hd ix ln
  lr : ∀ x, x < n → 0 ≤ a.getD x 0 → r.getD x false = true ∧ a.getD x 0 ∈ To x
  z : b.getD 0 (-1) = -1
  ed : ∀ x, x < n → r.getD x false = true → (En x = 1 ∨ En x = 2) → ∀ t : Int, t ∈ To x → 0 ≤ t → t < n → t = 0 ∨ 0 ≤ a.getD x 0 ∨ 0 ≤ b.getD t.toNat 0 ∨ (hd x : Int) = t
theorem fallsP_iff (To : Nat → List Int) (out : List Int) (p : Nat) : fallsP To out ((p : Int) + 1) = true ↔ p + 1 < out.length ∧ out.getD (p + 1) 0 ∈ To (out.getD p 0).toNat := by
  unfold fallsP
  rw [show ((p : Int) + 1 - 1).toNat = p by omega, show ((p : Int) + 1).toNat = p + 1 by omega]
  simp only [Bool.and_eq_true, decide_eq_true_eq, List.contains_iff_mem]
  constructor
  · rintro ⟨_, h, g⟩; exact ⟨by omega, g⟩
  · rintro ⟨h, g⟩; exact ⟨by omega, by omega, g⟩
section
variable {n : Nat} {To : Nat → List Int} {En : Nat → Int} {r : List Bool} {a b : List Int} {hd ix ln : Nat → Nat}
theorem RowIs.ahx (h : RowIs n To En r a b hd ix ln) {x y : Nat} (hx : x < n) (hy : y < n) (e : a.getD x 0 = (y : Int)) : b.getD y 0 = (x : Int) := by
  rcases h.co.nx x hx with ⟨q, _⟩ | ⟨z, hz, e1, e2, e3⟩
  · omega
  · have : z = y := by omega
    subst this
    rcases h.co.ah z hz with ⟨_, q⟩ | ⟨w, hw, w1, w2, w3⟩
    · omega
    · have : w = x := h.co.inj w x hw hx (by omega) (by omega)
      subst this; exact w1
variable (hc : ∀ x, x < n → r.getD x false = true → ∀ t ∈ To x, 0 ≤ t ∧ t < n ∧ r.getD t.toNat false = true)
include hc
theorem RowIs.rhd (h : RowIs n To En r a b hd ix ln) : ∀ (m x : Nat), ix x = m → x < n → (r.getD (hd x) false = r.getD x false)
  | 0, x, e, hx => by rw [h.co.h3 x hx e]
  | m + 1, x, e, hx => by
    rcases h.co.ah x hx with ⟨_, q⟩ | ⟨w, hw, w1, w2, w3⟩
    · omega
    · rw [← w2, h.rhd m w (by omega) hw]
      rcases h.co.nx w hw with ⟨_, q⟩ | ⟨y, hy, y1, y2, y3⟩
      · have := h.co.lt x hx; rw [← w2] at this; omega
      · have : y = x := h.co.inj y x hy hx (by omega) (by omega)
        subst this
        obtain ⟨k1, k2⟩ := h.lr w hw (by omega)
        have k3 := (hc w hw k1 _ k2).2.2
        rw [y1] at k3
        rw [k1]; exact k3.symm
theorem RowIs.mem (h : RowIs n To En r a b hd ix ln) (y : Int) : y ∈ outTo r a b ln n ↔ 0 ≤ y ∧ y < n ∧ r.getD y.toNat false = true := by
  rw [h.co.out_mem r y n (Nat.le_refl _)]
  constructor
  · rintro ⟨x, hx, rfl, h1, h2⟩
    rw [h.rhd hc _ x rfl hx] at h2
    exact ⟨by omega, by omega, h2⟩
  · rintro ⟨h1, h2, h3⟩
    have hx : y.toNat < n := by omega
    exact ⟨y.toNat, hx, by omega, h.co.h1 _ hx, by rw [h.rhd hc _ _ rfl hx]; exact h3⟩
omit hc in
theorem out_first (r : List Bool) (a b : List Int) (ln : Nat → Nat) (hr : r.getD 0 false = true) (hb : b.getD 0 0 < 0) (hl : 0 < ln 0) : ∀ i, 0 < i → (outTo r a b ln i).getD 0 0 = 0 ∧ 0 < (outTo r a b ln i).length
  | 1, _ => by
    have : outTo r a b ln 1 = chainL a (ln 0) 0 := by
      show [] ++ (if _ then _ else _) = _
      rw [if_pos ⟨hr, hb⟩]; rfl
    rw [this]
    obtain ⟨k, hk⟩ : ∃ k, ln 0 = k + 1 := ⟨ln 0 - 1, by omega⟩
    rw [hk]
    show ((if (0 : Int) ≤ 0 then _ else _) : List Int).getD 0 0 = 0 ∧ 0 < ((if (0 : Int) ≤ 0 then _ else _) : List Int).length
    rw [if_pos (Int.le_refl 0)]
    exact ⟨rfl, by simp⟩
  | i + 2, _ => by
    obtain ⟨h1, h2⟩ := out_first r a b ln hr hb hl (i + 1) (by omega)
    show (outTo r a b ln (i + 1) ++ _).getD 0 0 = 0 ∧ 0 < (outTo r a b ln (i + 1) ++ _).length
    rw [getD_app, if_pos h2]
    exact ⟨h1, by rw [List.length_append]; omega⟩
theorem RowIs.back (h : RowIs n To En r a b hd ix ln) (p : Nat) (hp : 0 < p) (hp2 : p < (outTo r a b ln n).length) (hb : 0 ≤ b.getD ((outTo r a b ln n).getD p 0).toNat 0) :
    a.getD ((outTo r a b ln n).getD (p - 1) 0).toNat 0 = (outTo r a b ln n).getD p 0 ∧ hd ((outTo r a b ln n).getD (p - 1) 0).toNat = hd ((outTo r a b ln n).getD p 0).toNat := by
  have hA := h.co.adj r n (Nat.le_refl _)
  rcases hA.st (p - 1) (by omega) with e | ⟨_, e⟩
  · rw [show p - 1 + 1 = p by omega] at e
    refine ⟨e, ?_⟩
    have m := (h.mem hc _).1 (getD_mem0 (j := p - 1) (l := outTo r a b ln n) (by omega))
    have m2 := (h.mem hc _).1 (getD_mem0 (j := p) (l := outTo r a b ln n) (by omega))
    rcases h.co.nx ((outTo r a b ln n).getD (p - 1) 0).toNat (by omega) with ⟨q, _⟩ | ⟨y, hy, y1, y2, y3⟩
    · omega
    · rw [← y2]; congr 1; omega
  · rw [show p - 1 + 1 = p by omega] at e; omega
theorem RowIs.toHead (h : RowIs n To En r a b hd ix ln) : ∀ p, p < (outTo r a b ln n).length → ∃ q, q ≤ p ∧ (outTo r a b ln n).getD q 0 = (hd ((outTo r a b ln n).getD p 0).toNat : Int)
  | p, hp => by
    have m := (h.mem hc _).1 (getD_mem0 (j := p) (l := outTo r a b ln n) hp)
    by_cases hb : 0 ≤ b.getD ((outTo r a b ln n).getD p 0).toNat 0
    · have h0 : 0 < p := by
        by_cases e : p = 0
        · subst e; have := (h.co.adj r n (Nat.le_refl _)).fst hp; omega
        · omega
      obtain ⟨_, e2⟩ := h.back hc p h0 hp hb
      obtain ⟨q, q1, q2⟩ := RowIs.toHead h (p - 1) (by omega)
      exact ⟨q, by omega, by rw [q2, e2]⟩
    · have := (h.co.ahn ((outTo r a b ln n).getD p 0).toNat (by omega) (by omega)).1
      exact ⟨p, Nat.le_refl _, by rw [this]; omega⟩
variable (hen : ∀ x, x < n → r.getD x false = true → To x ≠ [] → En x = 1 ∨ En x = 2) (h0 : r.getD 0 false = true)
include hen h0
omit hen in
theorem RowIs.first (h : RowIs n To En r a b hd ix ln) (hn : 0 < n) : (outTo r a b ln n).getD 0 0 = 0 ∧ 0 < (outTo r a b ln n).length := by
  have hz : b.getD 0 0 = -1 := by
    have := h.z
    simp only [List.getD_eq_getElem?_getD] at this ⊢
    have hl := h.co.l2
    rw [List.getElem?_eq_getElem (by omega)] at this ⊢
    exact this
  have hl := h.co.lt 0 hn
  rw [(h.co.ahn 0 hn (by omega)).1] at hl
  exact out_first r a b ln h0 (by omega) (by omega) n hn
theorem RowIs.begins (h : RowIs n To En r a b hd ix ln) (hn : 0 < n) : ∀ p q, p < (outTo r a b ln n).length → q < (outTo r a b ln n).length → (outTo r a b ln n).getD q 0 = (hd ((outTo r a b ln n).getD p 0).toNat : Int) → beginP To (outTo r a b ln n) (p + 1) = q + 1
  | p, q, hp, hq, e => by
    have hN := h.co.out_nodup r n (Nat.le_refl _)
    have hA := h.co.adj r n (Nat.le_refl _)
    obtain ⟨f1, f2⟩ := h.first hc h0 hn
    have m := (h.mem hc _).1 (getD_mem0 (j := p) (l := outTo r a b ln n) hp)
    unfold beginP
    by_cases hb : 0 ≤ b.getD ((outTo r a b ln n).getD p 0).toNat 0
    · have hp0 : 0 < p := by
        by_cases e : p = 0
        · subst e; have := hA.fst hp; omega
        · omega
      obtain ⟨e1, e2⟩ := h.back hc p hp0 hp hb
      have m1 := (h.mem hc _).1 (getD_mem0 (j := p - 1) (l := outTo r a b ln n) (by omega))
      have hlr := (h.lr _ (by omega : ((outTo r a b ln n).getD (p - 1) 0).toNat < n) (by rw [e1]; omega)).2
      rw [e1] at hlr
      have hf : fallsP To (outTo r a b ln n) (p : Int) = true := by
        have := (fallsP_iff To (outTo r a b ln n) (p - 1)).2 ⟨by omega, by rw [show p - 1 + 1 = p by omega]; exact hlr⟩
        rwa [show (((p - 1 : Nat) : Int) + 1) = (p : Int) by omega] at this
      rw [if_pos ⟨hp0, hf⟩]
      have := RowIs.begins h hn (p - 1) q (by omega) hq (by rw [e, e2])
      rwa [show p - 1 + 1 = p by omega] at this
    · have hh := (h.co.ahn ((outTo r a b ln n).getD p 0).toNat (by omega) (by omega)).1
      have hqp : q = p := nodup_inj hN hq hp (by rw [e, hh]; omega)
      subst hqp
      rw [if_neg]
      rintro ⟨k1, k2⟩
      have k3 := (fallsP_iff To (outTo r a b ln n) (q - 1)).1 (by rw [show (((q - 1 : Nat) : Int) + 1) = (q : Int) by omega]; exact k2)
      rw [show q - 1 + 1 = q by omega] at k3
      have m1 := (h.mem hc _).1 (getD_mem0 (j := q - 1) (l := outTo r a b ln n) (by omega))
      have hy : ((outTo r a b ln n).getD (q - 1) 0).toNat < n := by omega
      have ha : a.getD ((outTo r a b ln n).getD (q - 1) 0).toNat 0 < 0 := by
        rcases hA.st (q - 1) (by omega) with e | ⟨e, _⟩
        · rw [show q - 1 + 1 = q by omega] at e
          have := h.ahx hy (show ((outTo r a b ln n).getD q 0).toNat < n by omega) (by rw [e]; omega)
          omega
        · exact e
      rcases h.ed _ hy m1.2.2 (hen _ hy m1.2.2 (fun e => by rw [e] at k3; simp at k3)) _ k3.2 (by omega) (by omega) with g | g | g | g
      · have : q = 0 := nodup_inj hN hq (by omega) (by rw [g, f1])
        omega
      · omega
      · omega
      · obtain ⟨q', q1, q2⟩ := h.toHead hc (q - 1) (by omega)
        have : q' = q := nodup_inj hN (by omega) hq (by rw [q2, g])
        omega
theorem RowIs.ends (h : RowIs n To En r a b hd ix ln) (hn : 0 < n) (p q : Nat) (hp : p < (outTo r a b ln n).length) (hq : q < (outTo r a b ln n).length)
    (hf : fallsP To (outTo r a b ln n) ((p : Int) + 1) = false) (ht : (outTo r a b ln n).getD q 0 ∈ To ((outTo r a b ln n).getD p 0).toNat) (hz : (outTo r a b ln n).getD q 0 ≠ 0) (hg : fallsP To (outTo r a b ln n) (q : Int) = false) :
    beginP To (outTo r a b ln n) (p + 1) = q + 1 := by
  have hA := h.co.adj r n (Nat.le_refl _)
  obtain ⟨f1, f2⟩ := h.first hc h0 hn
  have m := (h.mem hc _).1 (getD_mem0 (j := p) (l := outTo r a b ln n) hp)
  have m2 := (h.mem hc _).1 (getD_mem0 (j := q) (l := outTo r a b ln n) hq)
  have hx : ((outTo r a b ln n).getD p 0).toNat < n := by omega
  have q0 : 0 < q := by
    by_cases e : q = 0
    · subst e; exact absurd f1 hz
    · omega
  refine h.begins hc hen h0 hn p q hp hq ?_
  have ha : a.getD ((outTo r a b ln n).getD p 0).toNat 0 < 0 := by
    by_cases hl : p + 1 < (outTo r a b ln n).length
    · rcases hA.st p hl with e | ⟨e, _⟩
      · have m3 := (h.mem hc _).1 (getD_mem0 (j := p + 1) (l := outTo r a b ln n) hl)
        have := (h.lr _ hx (by rw [e]; omega)).2
        rw [e] at this
        have := (fallsP_iff To (outTo r a b ln n) p).2 ⟨hl, this⟩
        rw [this] at hf; cases hf
      · exact e
    · have := hA.lst (by omega)
      rwa [show (outTo r a b ln n).length - 1 = p by omega] at this
  have hb : b.getD ((outTo r a b ln n).getD q 0).toNat 0 < 0 := by
    rcases hA.st (q - 1) (by omega) with e | ⟨_, e⟩
    · rw [show q - 1 + 1 = q by omega] at e
      have m3 := (h.mem hc _).1 (getD_mem0 (j := q - 1) (l := outTo r a b ln n) (by omega))
      have := (h.lr _ (by omega : ((outTo r a b ln n).getD (q - 1) 0).toNat < n) (by rw [e]; omega)).2
      rw [e] at this
      have := (fallsP_iff To (outTo r a b ln n) (q - 1)).2 ⟨by omega, by rw [show q - 1 + 1 = q by omega]; exact this⟩
      rw [show (((q - 1 : Nat) : Int) + 1) = (q : Int) by omega] at this
      rw [this] at hg; cases hg
    · rwa [show q - 1 + 1 = q by omega] at e
  rcases h.ed _ hx m.2.2 (hen _ hx m.2.2 (fun e => by rw [e] at ht; simp at ht)) _ ht (by omega) (by omega) with g | g | g | g
  · exact absurd g hz
  · omega
  · omega
  · exact g.symm
end
/-- The state: next, ahead; heads, places, lengths. -/
structure G where
  a : List Int
  b : List Int
  hd : Nat → Nat
  ix : Nat → Nat
  ln : Nat → Nat
def G.ok (n : Nat) (g : G) : Prop := Co n g.a g.b g.hd g.ix g.ln
def linkC (g : G) (x t : Nat) : Prop := t ≠ 0 ∧ g.a.getD x 0 < 0 ∧ g.b.getD t 0 < 0 ∧ g.hd x ≠ t
def linkY (g : G) (x t : Nat) : G := ⟨g.a.set x (t : Int), g.b.set t (x : Int), fun y => if g.hd y = t then g.hd x else g.hd y, fun y => if g.hd y = t then g.ix y + g.ln (g.hd x) else g.ix y, fun y => if y = g.hd x then g.ln (g.hd x) + g.ln t else g.ln y⟩
open Classical in
noncomputable def linkG (g : G) (x t : Nat) : G := if linkC g x t then linkY g x t else g
theorem linkG_yes {g : G} {x t : Nat} (h : linkC g x t) : linkG g x t = linkY g x t := if_pos h
theorem linkG_no {g : G} {x t : Nat} (h : ¬ linkC g x t) : linkG g x t = g := if_neg h
theorem G.ok.link {n : Nat} {g : G} (h : g.ok n) {x t : Nat} (hx : x < n) (ht : t < n) : (linkG g x t).ok n := by
  by_cases c : linkC g x t
  · rw [linkG_yes c]; exact Co.link h x t hx ht c.2.1 c.2.2.1 c.2.2.2
  · rw [linkG_no c]; exact h
/-- What holds of the state behind some edges E. -/
structure Inv (n : Nat) (To : Nat → List Int) (r : List Bool) (g : G) (E : List (Nat × Int)) : Prop where
  co : g.ok n
  lr : ∀ x, x < n → 0 ≤ g.a.getD x 0 → r.getD x false = true ∧ g.a.getD x 0 ∈ To x
  z : g.b.getD 0 (-1) = -1
  ed : ∀ e ∈ E, e.1 < n → 0 ≤ e.2 → e.2 < n → e.2 = 0 ∨ 0 ≤ g.a.getD e.1 0 ∨ 0 ≤ g.b.getD e.2.toNat 0 ∨ (g.hd e.1 : Int) = e.2
/-- One edge. -/
noncomputable def stepE (n : Nat) (g : G) (i : Nat) (t : Int) : G := if 0 ≤ t ∧ t < n then linkG g i t.toNat else g
theorem Inv.start (n : Nat) (To : Nat → List Int) (r : List Bool) : Inv n To r ⟨List.replicate n (-1), List.replicate n (-1), id, fun _ => 0, fun _ => 1⟩ [] where
  co := Co.start n
  lr := fun x hx h => by
    have : (List.replicate n (-1 : Int)).getD x 0 = -1 := by simp [List.getD_eq_getElem?_getD, hx]
    dsimp only at h
    omega
  z := by
    show (List.replicate n (-1 : Int)).getD 0 (-1) = -1
    by_cases h : 0 < n
    · simp [List.getD_eq_getElem?_getD, h]
    · obtain rfl : n = 0 := by omega
      rfl
  ed := fun e he => by simp at he
theorem Inv.step {n : Nat} {To : Nat → List Int} {r : List Bool} {g : G} {E : List (Nat × Int)} (h : Inv n To r g E) (i : Nat) (t : Int) (hi : i < n) (hr : r.getD i false = true) (ht : t ∈ To i) : Inv n To r (stepE n g i t) (E ++ [(i, t)]) := by
  unfold stepE
  by_cases c : 0 ≤ t ∧ t < n
  · rw [if_pos c]
    obtain ⟨k, rfl⟩ := Int.eq_ofNat_of_zero_le c.1
    rw [Int.toNat_natCast]
    have hk : k < n := by omega
    have l1 := h.co.l1
    have l2 := h.co.l2
    refine ⟨h.co.link hi hk, ?_, ?_, ?_⟩
    · intro x hx
      by_cases d : linkC g i k
      · rw [linkG_yes d]
        show 0 ≤ (g.a.set i (k : Int)).getD x 0 → _ ∧ (g.a.set i (k : Int)).getD x 0 ∈ To x
        rw [getD_set _ _ _ _ _ (by omega)]
        by_cases e : x = i
        · subst e; rw [if_pos rfl]; exact fun _ => ⟨hr, ht⟩
        · rw [if_neg e]; exact h.lr x hx
      · rw [linkG_no d]; exact h.lr x hx
    · by_cases d : linkC g i k
      · rw [linkG_yes d]
        show (g.b.set k (i : Int)).getD 0 (-1) = -1
        rw [getD_set _ _ _ _ _ (by omega), if_neg (by have := d.1; omega)]
        exact h.z
      · rw [linkG_no d]; exact h.z
    · intro e he e1 e2 e3
      rcases List.mem_append.1 he with m | m
      · have o := h.ed e m e1 e2 e3
        by_cases d : linkC g i k
        · rw [linkG_yes d]
          show e.2 = 0 ∨ 0 ≤ (g.a.set i (k : Int)).getD e.1 0 ∨ 0 ≤ (g.b.set k (i : Int)).getD e.2.toNat 0 ∨ ((if g.hd e.1 = k then g.hd i else g.hd e.1 : Nat) : Int) = e.2
          rw [getD_set _ _ _ _ _ (by omega), getD_set _ _ _ _ _ (by omega)]
          rcases o with o | o | o | o
          · exact .inl o
          · right; left; split <;> omega
          · right; right; left; split <;> omega
          · by_cases q : g.hd e.1 = k
            · right; right; left; rw [if_pos (by omega)]; omega
            · right; right; right; rw [if_neg q]; exact o
        · rw [linkG_no d]; exact o
      · simp at m
        subst m
        dsimp only at e1 e2 e3 ⊢
        rw [Int.toNat_natCast]
        by_cases d : linkC g i k
        · rw [linkG_yes d]
          right; left
          show 0 ≤ (g.a.set i (k : Int)).getD i 0
          rw [getD_set _ _ _ _ _ (by omega), if_pos rfl]; omega
        · rw [linkG_no d]
          by_cases q1 : k = 0
          · left; omega
          · by_cases q2 : g.a.getD i 0 < 0
            · by_cases q3 : g.b.getD k 0 < 0
              · by_cases q4 : g.hd i = k
                · right; right; right; omega
                · exact absurd ⟨q1, q2, q3, q4⟩ d
              · right; right; left; omega
            · right; left; omega
  · rw [if_neg c]
    refine ⟨h.co, h.lr, h.z, ?_⟩
    intro e he e1 e2 e3
    rcases List.mem_append.1 he with m | m
    · exact h.ed e m e1 e2 e3
    · simp at m; subst m; exact absurd ⟨e2, e3⟩ c
theorem pigeon : ∀ (n : Nat) (l : List Int), l.Nodup → (∀ x ∈ l, 0 ≤ x ∧ x < n) → l.length ≤ n
  | 0, l, _, h => by
    cases l with
    | nil => simp
    | cons x l => have := h x (by simp); omega
  | n + 1, l, hN, h => by
    have h1 := pigeon n (l.erase (n : Int)) (hN.erase _) (fun x hx => by
      have hx2 := (hN.mem_erase_iff).1 hx
      have := h x hx2.2
      have := hx2.1
      omega)
    rw [List.length_erase] at h1
    split at h1 <;> omega
theorem Co.out_len {n : Nat} {a b : List Int} {hd ix ln : Nat → Nat} (c : Co n a b hd ix ln) (r : List Bool) (i : Nat) (hi : i ≤ n) : (outTo r a b ln i).length ≤ n :=
  pigeon n _ (c.out_nodup r i hi) (fun x hx => by
    obtain ⟨y, hy, e, _⟩ := (c.out_mem r x i hi).1 hx
    omega)
theorem out_no {r : List Bool} {a b : List Int} {ln : Nat → Nat} {i : Nat} (h : ¬ (r.getD i false = true ∧ b.getD i 0 < 0)) : outTo r a b ln (i + 1) = outTo r a b ln i := by
  show outTo r a b ln i ++ _ = _
  rw [if_neg h, List.append_nil]
theorem out_yes {r : List Bool} {a b : List Int} {ln : Nat → Nat} {i : Nat} (h : r.getD i false = true ∧ b.getD i 0 < 0) : outTo r a b ln (i + 1) = outTo r a b ln i ++ chainL a (ln i) i := by
  show outTo r a b ln i ++ _ = _
  rw [if_pos h]
/-- Where the walk through a run stands. -/
def AtQ (n : Nat) (g : G) (m q : Nat) (v : Int) : Prop := q ≤ g.ln m ∧ ((q < g.ln m ∧ ∃ y, y < n ∧ v = (y : Int) ∧ g.hd y = m ∧ g.ix y = q) ∨ (q = g.ln m ∧ v = -1))
theorem AtQ.start {n : Nat} {g : G} (c : g.ok n) (m : Nat) (hm : m < n) (e : g.b.getD m 0 < 0) : AtQ n g m 0 (m : Int) := by
  obtain ⟨h1, h2⟩ := Co.ahn c m hm e
  have h3 := Co.lt c m hm
  rw [h1, h2] at h3
  exact ⟨by omega, .inl ⟨h3, m, hm, rfl, h1, h2⟩⟩
theorem AtQ.next {n : Nat} {g : G} (c : g.ok n) {m q y : Nat} (hm : m < n) (e : g.b.getD m 0 < 0) (hq : q < g.ln m) (hy : y < n) (h1 : g.hd y = m) (h2 : g.ix y = q) :
    AtQ n g m (q + 1) (g.a.getD y 0) ∧ (chainL g.a (g.ln m) m).take (q + 1) = (chainL g.a (g.ln m) m).take q ++ [(y : Int)] := by
  obtain ⟨r1, r2, r3⟩ := Co.run c m hm e
  refine ⟨?_, ?_⟩
  · rcases Co.nx c y hy with ⟨e1, e2⟩ | ⟨z, hz, e1, e2, e3⟩
    · exact ⟨by omega, .inr ⟨by rw [h1] at e2; omega, e1⟩⟩
    · have := Co.lt c z hz
      rw [e2, h1] at this
      exact ⟨by omega, .inl ⟨by omega, z, hz, e1, by omega, by omega⟩⟩
  · obtain ⟨z, hz, z1, z2, z3⟩ := r3 q hq
    have : z = y := Co.inj c z y hz hy (by omega) (by omega)
    subst this
    rw [List.take_succ_eq_append_getElem (by omega)]
    congr 2
    rw [← z1]
    simp [List.getD_eq_getElem?_getD, List.getElem?_eq_getElem (show q < (chainL g.a (g.ln m) m).length by omega)]
theorem run_bound {n : Nat} {g : G} (c : g.ok n) (r : List Bool) {m : Nat} (hm : m < n) (h : r.getD m false = true ∧ g.b.getD m 0 < 0) (q : Nat) : (outTo r g.a g.b g.ln m ++ (chainL g.a (g.ln m) m).take q).length ≤ n := by
  have := Co.out_len c r (m + 1) hm
  rw [out_yes h] at this
  rw [List.length_append] at this ⊢
  have := List.length_take_le q (chainL g.a (g.ln m) m)
  have := List.length_take_le' q (chainL g.a (g.ln m) m)
  omega
theorem run_full {n : Nat} {g : G} (c : g.ok n) {m : Nat} (hm : m < n) (e : g.b.getD m 0 < 0) : (chainL g.a (g.ln m) m).take (g.ln m) = chainL g.a (g.ln m) m :=
  List.take_of_length_le (by rw [(Co.run c m hm e).1]; exact Nat.le_refl _)
end Go.Proofs.Ytidhkicpandmbaa.RwA
