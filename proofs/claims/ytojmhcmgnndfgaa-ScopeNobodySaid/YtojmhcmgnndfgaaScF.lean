/- Scopes: the program's Declare. -/
import Derived.Test.YtojmhcmgnndfgaaScE
namespace Go.Proofs.Ytojmhcmgnndfgaa.Sc
open Go.RowKit Go.Proofs.YtojmhcmgnndfgaaW.PrintWords
set_option linter.unusedVariables false
set_option linter.unusedSimpArgs false

/-- The innermost block of a scope. -/
theorem top {w : World} {B g : Nat} {v : Value} {ms : List Nat} {st : List Blk} (p : PS w B g v ms st) (i : Nat) (hi : i < st.length) : ∃ b c m, v = .slice (some ⟨b, 0, none⟩) st.length c ∧ w.cell? ⟨b, i, none⟩ = some (.map (some m)) ∧ Mp w m (st.getD i []) ∧ m = ms.getD i 0 := by
  have hlen := p.len
  obtain ⟨A, c, rfl, hnc, hcm, hA, hcell⟩ := own_slice p.row
  obtain ⟨b, rfl⟩ := hA (by omega)
  obtain ⟨_, hx⟩ := hcell _ rfl
  refine ⟨b, c, ms.getD i 0, by rw [hlen], hx i _ ?_, p.mps i (by omega), rfl⟩
  simp [hnd, List.getD_eq_getElem?_getD, List.getElem?_eq_getElem (show i < ms.length by omega)]

set_option maxHeartbeats 4000000 in
set_option maxRecDepth 100000 in
theorem declare_0 {w : World} {p : Value} (s : ByteArray) (x : Int) (h : Aside0 (Dp p 0 w)) : Calls Try.prog 15 #[p, .string s, .int .i64 x] w fun e w' => e = .returned (.int .i64 1) ∧ w = w' := by
  go_enter Try.func15, Try.ntmps15
  go_wp2_with ((with_reducible refine (Dp.call h.out).mono ?_); rintro e w' ⟨rfl, rfl⟩)
  go_ret
  exact ⟨rfl, rfl⟩

theorem ps_drewN {w : World} {B g : Nat} {v : Value} {ms : List Nat} {st : List Blk} (p : PS w B g v ms st) (n : Nat) : PS (w.drewN n) B g v ms st := p.below ⟨rfl, rfl, rfl, Nat.le_refl _, fun _ _ => rfl⟩
def Went (r : Int) (B g : Nat) (st : List Blk) (w : World) (e : Ending) (w' : World) : Prop := e = .returned (.int .i64 r) ∧ ∃ v' ms', PS w' B g v' ms' st ∧ Below B w w' ∧ Fr GP w w'

set_option maxHeartbeats 4000000 in
set_option maxRecDepth 100000 in
theorem declare_known {w : World} {B g : Nat} {v : Value} {ms : List Nat} {st : List Blk} (p : Aside0 (PS w B g v ms st)) (s : ByteArray) (x : Int) (h0 : 1 ≤ st.length) (h1 : st.length ≤ 8796093022208) (hk : (get (st.getD (st.length - 1) []) s).2 = true) :
    Calls Try.prog 15 #[.pointer (some ⟨g, 0, none⟩), .string s, .int .i64 x] w (Went 1 B g st w) := by
  obtain ⟨b, c, m, rfl, hcm, hM, -⟩ := top p.out (st.length - 1) (by omega)
  have hend : ∀ n, ∃ v' ms', PS (w.drewN n) B g v' ms' st ∧ Below B w (w.drewN n) ∧ Fr GP w (w.drewN n) := fun n => ⟨_, _, ps_drewN p.out n, ⟨rfl, rfl, rfl, Nat.le_refl _, fun _ _ => rfl⟩, ⟨rfl, rfl, rfl, Nat.le_refl _, fun _ _ h _ => h⟩⟩
  have hd := Aside0.mk (depth p.out)
  have hc0 : w.cell? ⟨g, 0, none⟩ = some (.slice (some ⟨b, 0, none⟩) st.length c) := (blk_cell p.out.cell 0).trans rfl
  have hl := look hM s
  rw [hk] at hl
  have hl2 : ∀ n, _ := fun n => look (show Mp (w.drewN n) m _ from hM) s
  rw [hk] at hl2
  generalize (get (st.getD (st.length - 1) []) s).1 = y at *
  have ha := add_plain b (st.length - 1)
  have hend := Aside0.mk hend
  clear p hM
  generalize st.length = n at *
  have hwr : IntKind.i64.wrap ((n : Int) - 1) = (n : Int) - 1 := IntWalk.i64_in _ (by omega)
  have q0 : (0 : Int) ≤ (n : Int) - 1 := by omega
  have q1 : ((n : Int) - 1).toNat = n - 1 := by omega
  have q2 : (n : Int) - 1 < (n : Int) := by omega
  go_enter Try.func15, Try.ntmps15
  go_wp2_with ((with_reducible refine (Dp.call hd.out).mono ?_); rintro e w' ⟨rfl, rfl⟩)
  go_quiet (fail)
  go_wp2
  go_ret
  refine ⟨rfl, ?_⟩
  exact hend.out _

def add (st : List Blk) (s : ByteArray) (x : Int) : List Blk := st.set (st.length - 1) (st.getD (st.length - 1) [] ++ [(s, x)])
theorem nodup_inj {l : List Nat} (h : l.Nodup) {i j : Nat} (hi : i < l.length) (hj : j < l.length) (e : l[i] = l[j]) : i = j := by
  have hp := List.pairwise_iff_getElem.1 h
  rcases Nat.lt_trichotomy i j with h1 | h1 | h1
  · exact absurd e (hp i j hi hj h1)
  · exact h1
  · exact absurd e.symm (hp j i hj hi h1)
theorem declare_end {w : World} {B g : Nat} {v : Value} {ms : List Nat} {st : List Blk} (p : PS w B g v ms st) (h0 : 1 ≤ st.length) (s : ByteArray) (x : Int) :
    PS (putM w (ms.getD (st.length - 1) 0) s x) B g v ms (add st s x) ∧ Below B w (putM w (ms.getD (st.length - 1) 0) s x) ∧ Fr GP w (putM w (ms.getD (st.length - 1) 0) s x) := by
  have hlen := p.len
  have hM := p.mps (st.length - 1) (by omega)
  have hg := put_grown hM s x
  have hmem : ms.getD (st.length - 1) 0 ∈ ms := by
    rw [List.getD_eq_getElem?_getD, List.getElem?_eq_getElem (by omega)]
    exact List.getElem_mem _
  have hmp := put_mp hM s x
  obtain ⟨es, c, hb, he⟩ := hM
  have hobj : ∀ k cs t, w.heap[k]? = some (.cells cs t (0, 0)) → some k ≠ some (ms.getD (st.length - 1) 0) := fun k cs t h e => by
    injection e with e
    rw [e, hb] at h
    cases h
  refine ⟨⟨blk_grown p.cell hg (hobj _ _ _ p.cell), ?_, by simp [add, hlen], fun i hi => ?_, p.nd, p.bg, p.bm⟩, ⟨hg.os, hg.tape, hg.output, hg.size, fun k hk => ?_⟩, .grown hg ?_⟩
  · refine own_move p.row (fun k hk => ?_)
    obtain ⟨cells, hc⟩ := own_typed p.row k hk
    rw [blk_grown hc hg (hobj _ _ _ hc), hc]
  · unfold add
    rw [List.getD_eq_getElem?_getD (l := st.set _ _), List.getElem?_set]
    by_cases e : st.length - 1 = i
    · subst e
      rw [if_pos rfl, if_pos (by omega)]
      exact hmp
    · rw [if_neg e, ← List.getD_eq_getElem?_getD]
      refine (p.mps i hi).grown hg (fun e2 => e ?_)
      injection e2 with e2
      rw [List.getD_eq_getElem?_getD, List.getD_eq_getElem?_getD, List.getElem?_eq_getElem hi, List.getElem?_eq_getElem (show st.length - 1 < ms.length by omega)] at e2
      exact (nodup_inj p.nd hi (by omega) e2).symm
  · by_cases hk2 : k < w.heap.size
    · refine hg.block k hk2 (fun e => ?_)
      injection e with e
      have := p.bm _ hmem
      omega
    · have := p.bm _ hmem
      have := blk_lt hb
      omega
  · intro k o e hk hG
    injection e with e
    subst e
    rw [hb] at hk
    cases hk
    simp [GP] at hG

set_option maxHeartbeats 4000000 in
set_option maxRecDepth 100000 in
theorem declare_new {w : World} {B g : Nat} {v : Value} {ms : List Nat} {st : List Blk} (p : Aside0 (PS w B g v ms st)) (s : ByteArray) (x : Int) (h0 : 1 ≤ st.length) (h1 : st.length ≤ 8796093022208) (hk : (get (st.getD (st.length - 1) []) s).2 = false) :
    Calls Try.prog 15 #[.pointer (some ⟨g, 0, none⟩), .string s, .int .i64 x] w (Went 0 B g (add st s x) w) := by
  obtain ⟨b, c, m, rfl, hcm, hM, hm⟩ := top p.out (st.length - 1) (by omega)
  have hend : ∀ n, ∃ v' ms', PS (putM (w.drewN n) m s x) B g v' ms' (add st s x) ∧ Below B w (putM (w.drewN n) m s x) ∧ Fr GP w (putM (w.drewN n) m s x) := fun n => by
    obtain ⟨a1, a2, a3⟩ := declare_end (ps_drewN p.out n) h0 s x
    rw [← hm] at a1 a2 a3
    exact ⟨_, _, a1, (show Below B w (w.drewN n) from ⟨rfl, rfl, rfl, Nat.le_refl _, fun _ _ => rfl⟩).trans a2, (show Fr GP w (w.drewN n) from ⟨rfl, rfl, rfl, Nat.le_refl _, fun _ _ h _ => h⟩).trans a3⟩
  clear hm
  have hd := Aside0.mk (depth p.out)
  have hc0 : w.cell? ⟨g, 0, none⟩ = some (.slice (some ⟨b, 0, none⟩) st.length c) := (blk_cell p.out.cell 0).trans rfl
  have hl2 : ∀ n, _ := fun n => look (show Mp (w.drewN n) m _ from hM) s
  rw [hk] at hl2
  have hp2 : ∀ n, _ := fun n => put (show Mp (w.drewN n) m _ from hM) s x hk
  generalize (get (st.getD (st.length - 1) []) s).1 = y at *
  have ha := add_plain b (st.length - 1)
  have hend := Aside0.mk hend
  clear p hM
  generalize add st s x = st2 at *
  generalize st.length = n at *
  have hwr : IntKind.i64.wrap ((n : Int) - 1) = (n : Int) - 1 := IntWalk.i64_in _ (by omega)
  have q0 : (0 : Int) ≤ (n : Int) - 1 := by omega
  have q1 : ((n : Int) - 1).toNat = n - 1 := by omega
  have q2 : (n : Int) - 1 < (n : Int) := by omega
  go_enter Try.func15, Try.ntmps15
  go_wp2_with ((with_reducible refine (Dp.call hd.out).mono ?_); rintro e w' ⟨rfl, rfl⟩)
  go_quiet (fail)
  go_wp2
  go_ret
  refine ⟨rfl, ?_⟩
  exact hend.out _
end Go.Proofs.Ytojmhcmgnndfgaa.Sc
