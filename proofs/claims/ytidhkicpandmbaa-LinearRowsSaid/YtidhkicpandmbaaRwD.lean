/- linear.Row: its state. -/
import Derived.Test.YtidhkicpandmbaaRwC
import Derived.Test.YtidhkicpandmbaaIrM
namespace Go.Proofs.Ytidhkicpandmbaa.RwB
open Go.RowKit Go.Shelf Go.Proofs.YtidhkicpandmbaaW.PrintWords Go.Proofs.YtidhkicpandmbaaW.PrintLast Go.Proofs.YtidhkicpandmbaaW.PrintMore Go.Proofs.Ytidhkicpandmbaa.GF Go.Proofs.Ytidhkicpandmbaa.IrA Go.Proofs.Ytidhkicpandmbaa.RwA Go.Proofs.Ytidhkicpandmbaa.RwB Go.Proofs.Ytidhkicpandmbaa.RwC
set_option linter.unusedVariables false
set_option linter.unusedSimpArgs false
/-- Where links stand while they are made: the first j are -1. -/
def ini (n j : Nat) : List Int := List.replicate j (-1) ++ List.replicate (n - j) 0
theorem ini_length (n j : Nat) (h : j ≤ n) : (ini n j).length = n := by simp [ini]; omega
theorem ini_set (n j : Nat) (h : j < n) : (ini n j).set j (-1) = ini n (j + 1) := by
  apply List.ext_getElem
  · rw [List.length_set, ini_length n j (by omega), ini_length n (j + 1) (by omega)]
  · intro i h1 h2
    rw [List.getElem_set]
    simp only [ini, List.getElem_append, List.length_replicate, List.getElem_replicate]
    split <;> split <;> (try split) <;> first | rfl | omega
/-- linear.Row's blocks: the function's box, n, the chains, the two rows. -/
structure Sw (w W : World) (gn gc ga gb n : Nat) (fo : Obj) (a b : List Int) : Prop where
  B : Below w.heap.size w W
  xf : W.heap[w.heap.size]? = some fo
  xn : W.heap[gn]? = some (.cells #[.int .i64 (n : Int)] 3 (0, 0))
  xc : W.heap[gc]? = some (cho ga gb n)
  ra : Rw W ga a
  rb : Rw W gb b
  ne : ga ≠ gb
  na : gn ≠ ga ∧ gn ≠ gb ∧ w.heap.size < ga ∧ w.heap.size < gb ∧ w.heap.size < gn ∧ w.heap.size < gc
theorem Sw.below {w W W' : World} {gn gc ga gb n : Nat} {fo : Obj} {a b : List Int} (h : Sw w W gn gc ga gb n fo a b) (k : Below W.heap.size W W') : Sw w W' gn gc ga gb n fo a b :=
  ⟨below_step h.B k, blk_below h.xf k, blk_below h.xn k, blk_below h.xc k, h.ra.below k, h.rb.below k, h.ne, h.na⟩
theorem mk0 (n : Nat) : madeCells #[.int .i64 0] n = (nums .i64 (ini n 0)).toArray := by
  apply Array.ext
  · simp [size_madeCells, nums, ini]
  · intro i h1 h2
    simp [madeCells, nums, ini]
    rw [show i % 1 = 0 by omega]
    rfl
theorem at5 (w : World) (o0 o1 o2 o3 o4 : Obj) : Below w.heap.size w (((((w.alloc o0).alloc o1).alloc o2).alloc o3).alloc o4) ∧ (((((w.alloc o0).alloc o1).alloc o2).alloc o3).alloc o4).heap[w.heap.size]? = some o0 ∧ (((((w.alloc o0).alloc o1).alloc o2).alloc o3).alloc o4).heap[w.heap.size + 1]? = some o1 ∧
    (((((w.alloc o0).alloc o1).alloc o2).alloc o3).alloc o4).heap[w.heap.size + 1 + 1]? = some o2 ∧ (((((w.alloc o0).alloc o1).alloc o2).alloc o3).alloc o4).heap[w.heap.size + 1 + 1 + 1]? = some o3 ∧ (((((w.alloc o0).alloc o1).alloc o2).alloc o3).alloc o4).heap[w.heap.size + 1 + 1 + 1 + 1]? = some o4 := by
  have s1 : (w.alloc o0).heap.size = w.heap.size + 1 := by simp
  have s2 : ((w.alloc o0).alloc o1).heap.size = w.heap.size + 1 + 1 := by simp
  have s3 : (((w.alloc o0).alloc o1).alloc o2).heap.size = w.heap.size + 1 + 1 + 1 := by simp
  have s4 : ((((w.alloc o0).alloc o1).alloc o2).alloc o3).heap.size = w.heap.size + 1 + 1 + 1 + 1 := by simp
  have h0 := blk_new w o0
  have h1 := blk_new (w.alloc o0) o1
  have h2 := blk_new ((w.alloc o0).alloc o1) o2
  have h3 := blk_new (((w.alloc o0).alloc o1).alloc o2) o3
  have h4 := blk_new ((((w.alloc o0).alloc o1).alloc o2).alloc o3) o4
  rw [s1] at h1
  rw [s2] at h2
  rw [s3] at h3
  rw [s4] at h4
  exact ⟨below_alloc (below_alloc (below_alloc (below_alloc (below_alloc (Below.refl _ _) _) _) _) _) _, blk_alloc (blk_alloc (blk_alloc (blk_alloc h0 _) _) _) _, blk_alloc (blk_alloc (blk_alloc h1 _) _) _, blk_alloc (blk_alloc h2 _) _, blk_alloc h3 _, h4⟩
theorem Sw.mk5 {w W : World} {o0 o1 o2 o3 o4 fo : Obj} {n gc ga gb : Nat} (hW : W = ((((((w.alloc o0).alloc o1).alloc o2).alloc o3).alloc o4).drew)) (h0 : o0 = fo) (h1 : o1 = .cells #[.int .i64 (n : Int)] 3 (0, 0))
    (hc : W.heap[gc]? = some (cho ga gb n)) (ha : W.heap[ga]? = some (.cells (madeCells #[.int .i64 0] n) 3 (0, 0))) (hb : W.heap[gb]? = some (.cells (madeCells #[.int .i64 0] n) 3 (0, 0))) (hne : ga ≠ gb)
    (hs : w.heap.size + 1 < gc ∧ w.heap.size + 1 < ga ∧ w.heap.size + 1 < gb) : Sw w W (w.heap.size + 1) gc ga gb n fo (ini n 0) (ini n 0) := by
  subst hW h0 h1
  obtain ⟨b, k0, k1, _⟩ := at5 w o0 (.cells #[.int .i64 (n : Int)] 3 (0, 0)) o2 o3 o4
  rw [mk0] at ha hb
  exact ⟨below_step b (show Below (((((w.alloc o0).alloc (.cells #[.int .i64 (n : Int)] 3 (0, 0))).alloc o2).alloc o3).alloc o4).heap.size _ (World.drew _) from ⟨rfl, rfl, rfl, Nat.le_refl _, fun _ _ => rfl⟩), k0, k1, hc, ha, hb, hne, by omega⟩
/-- Blocks of cells that lie whole stay under W to W2, but for two. -/
theorem Two.blk {ga gb : Nat} {W W2 : World} (k : Two ga gb W W2) {g : Nat} {o : Obj} (h : W.heap[g]? = some o) (n1 : g ≠ ga) (n2 : g ≠ gb) : W2.heap[g]? = some o := (k.block g (blk_lt h) n1 n2).trans h
theorem Two.below {ga gb B : Nat} {W W2 : World} (k : Two ga gb W W2) (h1 : B ≤ ga) (h2 : B ≤ gb) (hB : B ≤ W.heap.size) : Below B W W2 := ⟨k.os, k.tape, k.output, k.size, fun i hi => k.block i (Nat.lt_of_lt_of_le hi hB) (by omega) (by omega)⟩
theorem Sw.two {w W W2 : World} {gn gc ga gb n : Nat} {fo : Obj} {a b a2 b2 : List Int} (h : Sw w W gn gc ga gb n fo a b) (hfo : ∃ cs, fo = .cells cs 28 (0, 0)) (k : Two ga gb W W2) (ra : Rw W2 ga a2) (rb : Rw W2 gb b2) : Sw w W2 gn gc ga gb n fo a2 b2 := by
  have n := h.na
  refine ⟨h.B.trans (k.below (Nat.le_of_lt n.2.2.1) (Nat.le_of_lt n.2.2.2.1) h.B.size), ?_, ?_, ?_, ra, rb, h.ne, n⟩
  · exact k.blk h.xf (Nat.ne_of_lt n.2.2.1) (Nat.ne_of_lt n.2.2.2.1)
  · exact k.blk h.xn n.1 n.2.1
  · exact k.blk h.xc (blk_ne h.xc h.ra (by decide)) (blk_ne h.xc h.rb (by decide))
theorem cel_of_grown {W W2 : World} {row : Option Nat} (hg : W.grownBy W2 row) (hr : ∀ r, row = some r → ∃ o : Obj, W.heap[r]? = some o ∧ o.isCells = false) : ∀ (g : Nat) (cs : Array Value) (t : Nat), W.heap[g]? = some (.cells cs t (0, 0)) → W2.heap[g]? = some (.cells cs t (0, 0)) := fun g cs t h =>
  blk_grown h hg (fun e => by
    obtain ⟨o, ho, hc⟩ := hr g e.symm
    rw [h] at ho
    injection ho with ho
    subst ho
    cases hc)
/-- Marks in a row of bools. -/
def Rb (W : World) (A : Option Addr) (l : List Bool) : Prop := ∀ i, i < l.length → ∃ (gr : Nat) (cs : Array Value), A = some ⟨gr, 0, none⟩ ∧ W.heap[gr]? = some (.cells cs 4 (0, 0)) ∧ cs[i]? = some (.bool (l.getD i false))
theorem Rb.of_R {w W : World} {A : Option Addr} {n c : Nat} {l : List Bool} (h : Kd.R Kd.bool 4 W w.heap.size (fun _ => True) (.slice A n c) l) : Rb W A l := fun i hi => by
  obtain ⟨g, cap, e, h1, h2, cells, h3⟩ := Kd.R_form h (by omega)
  injection e with e _ _
  subst e
  obtain ⟨ad, e, hx⟩ := Kd.at_bool (Kd.R_reads' h).2.2 (i : Int) (by omega) (by omega)
  cases e
  rw [add_plain, Int.toNat_natCast, blk_cell h3] at hx
  exact ⟨g, cells, rfl, h3, by rw [hx]; simp [rdOf]⟩
theorem Rb.keep {W W2 : World} {A : Option Addr} {l : List Bool} (h : Rb W A l) (k : ∀ (g : Nat) (cs : Array Value), W.heap[g]? = some (.cells cs 4 (0, 0)) → W2.heap[g]? = some (.cells cs 4 (0, 0))) : Rb W2 A l := fun i hi => by
  obtain ⟨gr, cs, e, h1, h2⟩ := h i hi
  exact ⟨gr, cs, e, k _ _ h1, h2⟩
theorem Rb.cell {W : World} {A : Option Addr} {l : List Bool} (h : Rb W A l) (i : Nat) (hi : i < l.length) : ∃ gr, A = some ⟨gr, 0, none⟩ ∧ W.cell? ⟨gr, i, none⟩ = some (.bool (l.getD i false)) := by
  obtain ⟨gr, cs, e, h1, h2⟩ := h i hi
  exact ⟨gr, e, by rw [blk_cell h1, h2]⟩
/-- linear.Row's blocks, the marks and the kinds' literal with them. -/
structure Sx (w W : World) (gn gc ga gb n : Nat) (fo : Obj) (a b : List Int) (A : Option Addr) (l : List Bool) (gl : Nat) : Prop where
  s : Sw w W gn gc ga gb n fo a b
  f : ∃ cs, fo = .cells cs 28 (0, 0)
  r : Rb W A l
  x : W.heap[gl]? = some (.cells #[.int .i64 1, .int .i64 2] 3 (0, 0))
  n1 : gl ≠ ga
  n2 : gl ≠ gb
theorem Sx.below {w W W2 : World} {gn gc ga gb n : Nat} {fo : Obj} {a b : List Int} {A : Option Addr} {l : List Bool} {gl : Nat} (h : Sx w W gn gc ga gb n fo a b A l gl) (k : Below W.heap.size W W2) : Sx w W2 gn gc ga gb n fo a b A l gl :=
  ⟨h.s.below k, h.f, h.r.keep fun _ _ q => blk_below q k, blk_below h.x k, h.n1, h.n2⟩
theorem Sx.two {w W W2 : World} {gn gc ga gb n : Nat} {fo : Obj} {a b a2 b2 : List Int} {A : Option Addr} {l : List Bool} {gl : Nat} (h : Sx w W gn gc ga gb n fo a b A l gl) (k : Two ga gb W W2) (ra : Rw W2 ga a2) (rb : Rw W2 gb b2) : Sx w W2 gn gc ga gb n fo a2 b2 A l gl :=
  ⟨h.s.two h.f k ra rb, h.f, h.r.keep fun _ _ q => k.blk q (blk_ne q h.s.ra (by decide)) (blk_ne q h.s.rb (by decide)), k.blk h.x h.n1 h.n2, h.n1, h.n2⟩
theorem Sx.own {w W W2 : World} {gn gc ga gb n : Nat} {fo : Obj} {a b : List Int} {A : Option Addr} {l : List Bool} {gl : Nat} (h : Sx w W gn gc ga gb n fo a b A l gl) {row : Option Nat} (hg : W.grownBy W2 row) (hB : ∀ r, row = some r → w.heap.size ≤ r ∧ ∃ o : Obj, W.heap[r]? = some o ∧ o.isCells = false) : Sx w W2 gn gc ga gb n fo a b A l gl := by
  have c := cel_of_grown hg (fun r e => (hB r e).2)
  obtain ⟨cs, hf⟩ := h.f
  subst hf
  exact ⟨⟨h.s.B.trans ⟨hg.os, hg.tape, hg.output, hg.size, fun i hi => hg.block i (Nat.lt_of_lt_of_le hi h.s.B.size) (fun e => by have := (hB i e.symm).1; omega)⟩, c _ _ _ h.s.xf, c _ _ _ h.s.xn, c _ _ _ h.s.xc, c _ _ _ h.s.ra, c _ _ _ h.s.rb, h.s.ne, h.s.na⟩, h.f, h.r.keep fun g cs q => c g cs 4 q, c _ _ _ h.x, h.n1, h.n2⟩
/-- What is deferred: marks of loops over functions, nothing in them. -/
def mark (D : Nat) : Deferred := { target := .collected D, args := #[] }
def Dm (B : Nat) (W : World) (ds : List Deferred) : Prop := ∃ Dl : List Nat, ds = Dl.map mark ∧ Dl.Nodup ∧ ∀ D ∈ Dl, B ≤ D ∧ W.heap[D]? = some (.deferred (some []))
theorem Dm.nil (B : Nat) (W : World) : Dm B W [] := ⟨[], rfl, by simp, by simp⟩
theorem Dm.keep {B : Nat} {W W2 : World} {ds : List Deferred} (h : Dm B W ds) (k : ∀ D : Nat, W.heap[D]? = some (Obj.deferred (some [])) → W2.heap[D]? = some (.deferred (some []))) : Dm B W2 ds := by
  obtain ⟨Dl, h1, h2, h3⟩ := h
  exact ⟨Dl, h1, h2, fun D hD => ⟨(h3 D hD).1, k D (h3 D hD).2⟩⟩
theorem Dm.below {B : Nat} {W W2 : World} {ds : List Deferred} (h : Dm B W ds) (k : Below W.heap.size W W2) : Dm B W2 ds := h.keep fun _ q => blk_below q k
theorem Dm.two {B ga gb : Nat} {W W2 : World} {ds : List Deferred} {a b : List Int} (h : Dm B W ds) (k : Two ga gb W W2) (ra : Rw W ga a) (rb : Rw W gb b) : Dm B W2 ds := h.keep fun D q => k.blk q (fun e => by rw [e, ra] at q; cases q) (fun e => by rw [e, rb] at q; cases q)
theorem Dm.cons {B C D : Nat} {W W2 : World} {ds : List Deferred} (h : Dm B W ds) (hBC : B ≤ C) (hC : W.heap.size ≤ C) (hD : C ≤ D) (k : Dm B W2 ds) (q : W2.heap[D]? = some (.deferred (some []))) : Dm B W2 (mark D :: ds) := by
  obtain ⟨Dl, h1, h2, h3⟩ := h
  obtain ⟨El, e1, e2, e3⟩ := k
  have hm : ∀ {L M : List Nat}, L.map mark = M.map mark → L = M := by
    intro L
    induction L with
    | nil => intro M e; cases M with
      | nil => rfl
      | cons _ _ => simp at e
    | cons x L ih => intro M e; cases M with
      | nil => simp at e
      | cons y M =>
        simp only [List.map_cons, List.cons.injEq] at e
        obtain ⟨e4, e5⟩ := e
        rw [ih e5]
        have : x = y := by unfold mark at e4; injection e4 with e4; injection e4
        rw [this]
  have : Dl = El := hm (h1.symm.trans e1)
  subst this
  refine ⟨D :: Dl, by rw [h1]; rfl, List.nodup_cons.2 ⟨fun m => ?_, h2⟩, fun X hX => ?_⟩
  · have := blk_lt (h3 D m).2; omega
  · rcases List.mem_cons.1 hX with rfl | hX
    · exact ⟨by omega, q⟩
    · exact e3 X hX
/-- Between two links of one block. -/
def Iv (w : World) (gn gc ga gb gl gi n : Nat) (To : Nat → List Int) (r : List Bool) (fo : Obj) (A : Option Addr) (Dl : List Nat) (E0 : List (Nat × Int)) (i : Nat) (zs : List Int) (pre : List (Yd zs)) (W : World) : Prop :=
  (∃ g : G, Sx w W gn gc ga gb n fo g.a g.b A r gl ∧ Inv n To r g (E0 ++ pre.map (fun p => (i, p.1.2)))) ∧ (∀ D ∈ Dl, W.heap[D]? = some (Obj.deferred (some []))) ∧ W.heap[gi]? = some (.cells #[.int .i64 (i : Int)] 3 (0, 0))
theorem Iv.own {B : Nat} {w : World} {gn gc ga gb gl gi n : Nat} {To : Nat → List Int} {r : List Bool} {fo : Obj} {A : Option Addr} {Dl : List Nat} {E0 : List (Nat × Int)} {i : Nat} {zs : List Int} (hD : ∀ D ∈ Dl, D < B) (hB : w.heap.size ≤ B) :
    OwnFrom B (Iv w gn gc ga gb gl gi n To r fo A Dl E0 i zs) := by
  rintro pre X Y row ⟨⟨g, hS, hI⟩, h2, h3⟩ hg hr
  refine ⟨⟨g, hS.own hg (fun r e => ⟨Nat.le_trans hB (hr r e).1, (hr r e).2⟩), hI⟩, fun D hd => blk_grown (h2 D hd) hg (fun e => ?_), cel_of_grown hg (fun r e => (hr r e).2) _ _ _ h3⟩
  have := (hr D e.symm).1
  have := hD D hd
  omega
theorem Two.keeps {ga gb : Nat} {W W2 : World} {a b : List Int} (k : Two ga gb W W2) (ra : Rw W ga a) (rb : Rw W gb b) (B : Nat) : KeepsFrom B W W2 :=
  ⟨k.size, fun j o _ h ho => k.blk h (fun e => by rw [e, ra] at h; injection h with h; subst h; cases ho) (fun e => by rw [e, rb] at h; injection h with h; subst h; cases ho)⟩
theorem Two.kp {n₀ Bs ga gb n cap : Nat} {A : Option Addr} {W W2 : World} {a b : List Int} (k : Two ga gb W W2) (ra : Rw W ga a) (rb : Rw W gb b) (h1 : n₀ ≤ ga) (h2 : n₀ ≤ gb) : Kp n₀ Bs A n cap W W2 :=
  ⟨k.below h1 h2 (by have := blk_lt ra; omega), fun q => k.blk q (blk_ne q ra (by decide)) (blk_ne q rb (by decide))⟩
theorem kp_b {n₀ Bs : Nat} {A : Option Addr} {n cap : Nat} {w : World} (hn : n₀ ≤ w.heap.size) (W : World) (l : Nat) (o o' : Obj) (hl : w.heap.size ≤ l) (h : W.heap[l]? = some o) (hc : o.isCells = false) (hw : o.isWalk = false) : Kp n₀ Bs A n cap W (W.putObj l o') :=
  ⟨belowK_b hn W l o o' hl h hc hw, fun q => (World.putObj_heap_other (fun e => by rw [← e, q] at h; injection h with h; subst h; cases hc)).trans q⟩
/-- One link: what holds behind it. -/
theorem Iv.link {w W W2 : World} {gn gc ga gb gl gi n Bs m cap : Nat} {To : Nat → List Int} {r : List Bool} {fo : Obj} {A B3 : Option Addr} {Dl : List Nat} {E0 : List (Nat × Int)} {i : Nat} {zs : List Int} {pre : List (Yd zs)} {g : G} (hS : Sx w W gn gc ga gb n fo g.a g.b A r gl) (hI : Inv n To r g (E0 ++ pre.map (fun p => (i, p.1.2))))
    (h2 : ∀ D ∈ Dl, W.heap[D]? = some (Obj.deferred (some []))) (h3 : W.heap[gi]? = some (.cells #[.int .i64 (i : Int)] 3 (0, 0))) (hi : i < n) (hr : r.getD i false = true) (hTo : To i = zs) (x : Yd zs) (hgi : gi ≠ ga ∧ gi ≠ gb) (t : Nat) (ht : x.1.2 = (t : Int)) (htn : t < n)
    (k : Two ga gb W W2) (ra : Rw W2 ga (linkG g i t).a) (rb : Rw W2 gb (linkG g i t).b) (C : Nat) :
    KeepsFrom C W W2 ∧ Kp w.heap.size Bs B3 m cap W W2 ∧ Iv w gn gc ga gb gl gi n To r fo A Dl E0 i zs (pre ++ [x]) W2 := by
  have hn := hS.s.na
  refine ⟨k.keeps hS.s.ra hS.s.rb C, k.kp hS.s.ra hS.s.rb (Nat.le_of_lt hn.2.2.1) (Nat.le_of_lt hn.2.2.2.1), ⟨_, hS.two k ra rb, ?_⟩, fun D hd => k.blk (h2 D hd) (fun e => ?_) (fun e => ?_), k.blk h3 hgi.1 hgi.2⟩
  · have h := hI.step i x.1.2 hi hr (by rw [hTo]; exact x.2)
    unfold stepE at h
    rw [if_pos ⟨by omega, by omega⟩, ht, Int.toNat_natCast] at h
    rw [List.map_append, ← List.append_assoc]
    simpa [ht] using h
  · have := h2 D hd; rw [e, hS.s.ra] at this; cases this
  · have := h2 D hd; rw [e, hS.s.rb] at this; cases this
theorem Iv.skip {w W : World} {gn gc ga gb gl gi n Bs m cap : Nat} {To : Nat → List Int} {r : List Bool} {fo : Obj} {A B3 : Option Addr} {Dl : List Nat} {E0 : List (Nat × Int)} {i : Nat} {zs : List Int} {pre : List (Yd zs)} {g : G} (hS : Sx w W gn gc ga gb n fo g.a g.b A r gl) (hI : Inv n To r g (E0 ++ pre.map (fun p => (i, p.1.2))))
    (h2 : ∀ D ∈ Dl, W.heap[D]? = some (Obj.deferred (some []))) (h3 : W.heap[gi]? = some (.cells #[.int .i64 (i : Int)] 3 (0, 0))) (hi : i < n) (hr : r.getD i false = true) (hTo : To i = zs) (x : Yd zs) (ht : ¬ (0 ≤ x.1.2 ∧ x.1.2 < n)) (C : Nat) :
    KeepsFrom C W W ∧ Kp w.heap.size Bs B3 m cap W W ∧ Iv w gn gc ga gb gl gi n To r fo A Dl E0 i zs (pre ++ [x]) W := by
  refine ⟨KeepsFrom.refl _ _, ⟨Below.refl _ _, fun q => q⟩, ⟨g, hS, ?_⟩, h2, h3⟩
  have h := hI.step i x.1.2 hi hr (by rw [hTo]; exact x.2)
  unfold stepE at h
  rw [if_neg ht] at h
  rw [List.map_append, ← List.append_assoc]
  simpa using h
/-- Only what was deferred is turned. -/
structure Mv (Dl : List Nat) (W W2 : World) : Prop where
  os : W2.os = W.os
  tape : W2.tape = W.tape
  output : W2.output = W.output
  size : W.heap.size ≤ W2.heap.size
  block : ∀ k, k ∉ Dl → W2.heap[k]? = W.heap[k]?
theorem leaves_marks {F : Fence} {n : Nat} {P : Program} {fn : Func} {tmps : Array Value} {R : Ending → World → Prop} : ∀ (Dl : List Nat) (W : World), Dl.Nodup → (∀ D ∈ Dl, W.heap[D]? = some (Obj.deferred (some []))) →
    (∀ W2, Mv Dl W W2 → LeavesIn F n P fn tmps R [] .returning W2) → LeavesInM F n P fn tmps R (Dl.map mark) .returning W
  | [], W, _, _, h => h W ⟨rfl, rfl, rfl, Nat.le_refl _, fun _ _ => rfl⟩
  | D :: Dl, W, hN, hD, h => by
    have hK := hD D (by simp)
    have hN2 := List.nodup_cons.1 hN
    refine ⟨by simp, .inl ⟨_, _, rfl, run_takeDeferred hK, ?_⟩⟩
    have hlt := blk_lt hK
    refine leaves_marks Dl _ hN2.2 (fun E hE => (World.putObj_heap_other (fun e => hN2.1 (by rw [← e]; exact hE))).trans (hD E (by simp [hE]))) (fun W2 k => h W2 ⟨k.os, k.tape, k.output, by have := k.size; simpa using this, fun i hi => ?_⟩)
    have h1 := k.block i (fun m => hi (by simp [m]))
    rw [h1]
    exact World.putObj_heap_other (fun e => hi (by simp [e]))
theorem Mv.below {Dl : List Nat} {B : Nat} {W W2 : World} (h : Mv Dl W W2) (hD : ∀ D ∈ Dl, B ≤ D) : Below B W W2 := ⟨h.os, h.tape, h.output, h.size, fun k hk => h.block k (fun m => by have := hD k m; omega)⟩
theorem R_cel {α : Type} {d : Kd α} {e base : Nat} {W W2 : World} {ok : Nat → Prop} {v : Value} {xs : List α} (h : d.R e W base ok v xs) (hm : ∀ (k : Nat) (cs : Array Value) (q : Nat), W.heap[k]? = some (.cells cs q (0, 0)) → W2.heap[k]? = W.heap[k]?) : d.R e W2 base ok v xs :=
  Kd.R_mono (Kd.R_move (Kd.R_bound h) (fun k hk => by obtain ⟨_, _, _, q, _, cs, hc⟩ := hk; exact hm k cs q hc)) (fun _ hk => hk.1)
theorem upto_mem (zs : List Int) (t : Int) (h : t ∈ zs) : ∃ x ∈ upto (bk zs) zs.length, x.2 = t := by
  obtain ⟨j, hj, e⟩ := List.getElem_of_mem h
  refine ⟨bk zs (zs.length - 1 - j), List.mem_map.2 ⟨zs.length - 1 - j, by rw [List.mem_range]; omega, rfl⟩, ?_⟩
  unfold bk
  rw [show zs.length - 1 - (zs.length - 1 - j) = j by omega]
  simp [List.getD_eq_getElem?_getD, hj, e]
end Go.Proofs.Ytidhkicpandmbaa.RwB
