/- Scopes: the program's Enter. -/
import Derived.Test.YtojmhcmgnndfgaaScC
namespace Go.Proofs.Ytojmhcmgnndfgaa.Sc
open Go.RowKit Go.Proofs.YtojmhcmgnndfgaaW.PrintWords
set_option linter.unusedVariables false
set_option linter.unusedSimpArgs false

set_option maxHeartbeats 4000000 in
set_option maxRecDepth 100000 in
theorem enter_no {w : World} {p : Value} (h : Aside0 (Dp p 0 w)) : Calls Try.prog 13 #[p] w fun e w' => e = .returned (.tuple #[]) ∧ w = w' := by
  go_enter Try.func13, Try.ntmps13
  go_wp2_with ((with_reducible refine (Dp.call h.out).mono ?_); rintro e w' ⟨rfl, rfl⟩)
  go_end0
  exact ⟨rfl, rfl⟩

theorem hnd_snoc (ms : List Nat) (m : Nat) : hnd (ms ++ [m]) = hnd ms ++ [.map (some m)] := by simp [hnd]

theorem own_ne {w : World} {B e size n g t : Nat} {v : Value} {xs : List Value} {cs : Array Value} (h : w.ownsRow B e size v n xs) (hg : w.heap[g]? = some (.cells cs t (0, 0))) (ht : t ≠ e) : ∀ k, v.ownBlock = some k → k ≠ g := by
  intro k hk e'
  obtain ⟨cells, hcc⟩ := own_typed h k hk
  rw [e', hg] at hcc
  injection hcc with hcc
  injection hcc with _ hcc
  exact ht hcc
theorem Below.lower {B B' : Nat} {w w' : World} (h : Below B w w') (hb : B' ≤ B) : Below B' w w' := ⟨h.os, h.tape, h.output, h.size, fun k hk => h.block k (Nat.lt_of_lt_of_le hk hb)⟩
theorem getD_snoc_lt {α : Type} (l : List α) (a d : α) (i : Nat) (h : i < l.length) : (l ++ [a]).getD i d = l.getD i d := by
  rw [List.getD_eq_getElem?_getD, List.getD_eq_getElem?_getD, List.getElem?_append_left h]
theorem getD_snoc_eq {α : Type} (l : List α) (a d : α) (i : Nat) (h : i = l.length) : (l ++ [a]).getD i d = a := by
  rw [List.getD_eq_getElem?_getD, h]
  simp
theorem enter_end {w w1 : World} {B g : Nat} {v v1 : Value} {ms : List Nat} {st : List Blk} (p : PS w B g v ms st) (hB : B ≤ w.heap.size) (hown : w1.ownsRow B 47 1 v1 (ms.length + 1) (hnd ms ++ [.map (some w.heap.size)])) (hbel : Below B w w1)
    (hgr : (w.alloc (.map #[] 0)).grownBy w1 v.ownBlock) (hc1 : w1.heap[g]? = some (.cells #[v] 44 (0, 0))) :
    PS (w1.setCell ⟨g, 0, none⟩ v1) B g v1 (ms ++ [w.heap.size]) (st ++ [[]]) ∧ Below B w (w1.setCell ⟨g, 0, none⟩ v1) ∧ Fr GP w (w1.setCell ⟨g, 0, none⟩ v1) := by
  have hlen := p.len
  have far : ∀ k, k ≠ g → (w1.setCell ⟨g, 0, none⟩ v1).heap[k]? = w1.heap[k]? := fun k hk => Below.heap_setCell _ _ _ _ hk
  have hown_m : ∀ (u : World) (k : Nat) (es : Array MapEntry) (c : Nat), w.heap[k]? = some (.map es c) → v.ownBlock ≠ some k := fun u k es c hk e => by
    obtain ⟨cells, hcc⟩ := own_typed p.row k e
    rw [hk] at hcc
    cases hcc
  have new1 : w1.heap[w.heap.size]? = some (.map #[] 0) := by
    refine (hgr.block w.heap.size (by simp) (fun e => ?_)).trans (blk_new w _)
    have := (p.row.lt _ e.symm).2
    omega
  have hgl := blk_lt p.cell
  refine ⟨⟨blk_put hc1 0 _ rfl, ?_, by simp [hlen], fun i hi => ?_, ?_, p.bg, ?_⟩, ?_, ?_⟩
  · rw [List.length_append, hnd_snoc]
    exact own_move hown (fun k hk => far k (own_ne hown hc1 (by decide) k hk))
  · rw [List.length_append, List.length_singleton] at hi
    by_cases h : i < ms.length
    · rw [getD_snoc_lt _ _ _ _ h, getD_snoc_lt _ _ _ _ (by omega)]
      obtain ⟨es, c, hb, he⟩ := p.mps i h
      have hb1 : w1.heap[ms.getD i 0]? = some (.map es c) := blk_grown (blk_alloc hb _) hgr (fun e => hown_m w _ _ _ hb e.symm)
      refine ⟨es, c, ?_, he⟩
      rw [far _ (fun e => by rw [e, hc1] at hb1; cases hb1), hb1]
    · rw [getD_snoc_eq _ _ _ _ (by omega), getD_snoc_eq _ _ _ _ (by omega)]
      exact ⟨_, _, (far _ (by omega)).trans new1, by simp⟩
  · refine List.nodup_append.2 ⟨p.nd, by simp, fun a ha b hb => ?_⟩
    rw [List.mem_singleton.1 hb]
    intro e
    obtain ⟨i, hi, hia⟩ := List.getElem_of_mem ha
    obtain ⟨es, c, hb, _⟩ := p.mps i hi
    rw [List.getD_eq_getElem?_getD, List.getElem?_eq_getElem hi, Option.getD_some, hia, e] at hb
    have := blk_lt hb
    omega
  · intro m hm
    rcases List.mem_append.1 hm with hm | hm
    · exact p.bm m hm
    · rw [List.mem_singleton.1 hm]; exact hB
  · exact hbel.setCell p.bg _
  · refine ⟨hbel.os, hbel.tape, hbel.output, by simpa using hbel.size, fun k o hk hG => ?_⟩
    have hkg : k ≠ g := fun e => by
      rw [e, p.cell] at hk
      cases hk
      simp [GP] at hG
    rw [far k hkg]
    refine (hgr.block k (by simp; exact Nat.lt_succ_of_lt (blk_lt hk)) (fun e => ?_)).trans (blk_alloc hk _)
    obtain ⟨cells, hcc⟩ := own_typed p.row k e.symm
    rw [hk] at hcc
    cases hcc
    simp [GP] at hG

set_option maxHeartbeats 4000000 in
set_option maxRecDepth 100000 in
theorem enter {w : World} {B g : Nat} {v : Value} {ms : List Nat} {st : List Blk} (p : Aside0 (PS w B g v ms st)) (hB : B ≤ w.heap.size) (h0 : 0 < st.length) (h1 : st.length ≤ 8796093022208) :
    Calls Try.prog 13 #[.pointer (some ⟨g, 0, none⟩)] w fun e w' => e = .returned (.tuple #[]) ∧ ∃ v' ms', PS w' B g v' ms' (st ++ [[]]) ∧ Below B w w' ∧ Fr GP w w' := by
  have hmm := @run_makeMap Try.prog
  have hd := Aside0.mk (depth p.out)
  have hc0 : w.cell? ⟨g, 0, none⟩ = some v := (blk_cell p.out.cell 0).trans rfl
  have hbg := p.out.bg
  have hlen := p.out.len
  have hgl := blk_lt p.out.cell
  have hca : (w.alloc (.map #[] 0)).cell? ⟨g, 0, none⟩ = some v := (blk_cell (blk_alloc p.out.cell _) 0).trans rfl
  go_enter Try.func13, Try.ntmps13
  go_wp2_with (first
    | ((with_reducible refine (Dp.call hd.out).mono ?_); rintro e w' ⟨rfl, rfl⟩)
    | (at_builtin
       refine print_append_cells (w0 := w) B rfl (.tmp 9) (.tmp 11) 42 47 (.map none) 1 8 rfl Try.underlying42 info47 rfl (by decide) (by decide) v ms.length (hnd ms) [.map (some w.heap.size)] rfl (by show Value.slice (some ⟨w.heap.size + 1, 0, none⟩) 1 1 = _; rw [World.size_alloc]) rfl ?h1 ?HO ?HB ?hbase ?hl ?_
       case h1 => simp [Value.oneCell']
       case HO => exact p.out.row.alloc _
       case HB => exact (Below.refl B w).alloc hB _
       case hbase => simp; omega
       case hl => omega
       intro v1 w1 hown hbel hgr hat
       have hne : some g ≠ v.ownBlock := fun e => by
         obtain ⟨cells, hcc⟩ := own_typed p.out.row g e.symm
         rw [p.out.cell] at hcc
         cases hcc
       have hc1 : w1.heap[g]? = some (.cells #[v] 44 (0, 0)) := blk_grown (blk_alloc p.out.cell _) hgr hne
       have hend := Aside0.mk (enter_end p.out hB hown hbel hgr hc1)
       obtain ⟨A1, k1, rfl, _⟩ := own_slice hown
       have hcc1 : w1.cell? ⟨g, 0, none⟩ = some v := (blk_cell hc1 0).trans rfl
       have hf1 : w1.frozen? ⟨g, 0, none⟩ = false := blk_frozen hc1 0))
  go_end0
  have h := hend.out
  rw [hlen] at h
  exact ⟨rfl, _, _, h⟩
end Go.Proofs.Ytojmhcmgnndfgaa.Sc
