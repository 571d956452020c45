/- Scopes: the reference's Declare. -/
import Derived.Test.YtojmhcmgnndfgaaScI
import Derived.Deep.RegionLaw
namespace Go.Proofs.Ytojmhcmgnndfgaa.Sc
open Go.RowKit Go.Proofs.YtojmhcmgnndfgaaW.PrintWords
set_option linter.unusedVariables false
set_option linter.unusedSimpArgs false

def e0 : Ent := (0, ⟨#[]⟩, 0)
/-- The name is there, in the block n. -/
def Hit (l : List Ent) (n : Int) (s : ByteArray) (i : Nat) : Prop := (l.getD i e0).1 = n ∧ (l.getD i e0).2.1 = s
theorem rs_drewN {w : World} {B g : Nat} {v : Value} {l : List Ent} {n : Int} (p : RS w B g v l n) (q : Nat) : RS (w.drewN q) B g v l n := p.below ⟨rfl, rfl, rfl, Nat.le_refl _, fun _ _ => rfl⟩

theorem rdeclare_end {w w1 : World} {B g : Nat} {v v1 : Value} {l : List Ent} {n : Int} (p : RS w B g v l n) (en : Ent) (hown : w1.ownsRow B 52 3 v1 (l.length + 1) (cells l ++ cells [en])) (hbel : Below B w w1)
    (hgr : w.grownBy w1 v.ownBlock) (hc1 : w1.heap[g]? = some (.cells #[v, .int .i64 n] 33 (0, 0))) :
    RS (w1.setCell ⟨g, 0, none⟩ v1) B g v1 (l ++ [en]) n ∧ Below B w (w1.setCell ⟨g, 0, none⟩ v1) ∧ Fr GR w (w1.setCell ⟨g, 0, none⟩ v1) := by
  have far : ∀ k, k ≠ g → (w1.setCell ⟨g, 0, none⟩ v1).heap[k]? = w1.heap[k]? := fun k hk => Below.heap_setCell _ _ _ _ hk
  refine ⟨⟨blk_put hc1 0 _ rfl, ?_, p.bg⟩, hbel.setCell (p := ⟨g, 0, none⟩) p.bg _, ⟨hbel.os, hbel.tape, hbel.output, by simpa using hbel.size, fun k o hk hG => ?_⟩⟩
  · rw [List.length_append, cells_append]
    exact own_move hown (fun k hk => far k (own_ne hown hc1 (by decide) k hk))
  · rw [far k (fun e => by rw [e, p.cell] at hk; cases hk; simp [GR] at hG)]
    refine (hgr.block k (blk_lt hk) (fun e => ?_)).trans hk
    obtain ⟨cells, hcc⟩ := own_typed p.row k e.symm
    rw [hk] at hcc
    cases hcc
    simp [GR] at hG

set_option maxHeartbeats 8000000 in
set_option maxRecDepth 100000 in
theorem rdeclare {w : World} {B g : Nat} {v : Value} {l : List Ent} {n : Int} (p : Aside0 (RS w B g v l n)) (s : ByteArray) (x : Int) (hB : B ≤ w.heap.size) (hlm : l.length ≤ 4398046511103) :
    Calls Try.prog 16 #[.pointer (some ⟨g, 0, none⟩), .string s, .int .i64 x] w fun e w' =>
      ((∃ i, i < l.length ∧ Hit l n s i) ∧ e = .returned (.int .i64 1) ∧ ∃ v', RS w' B g v' l n ∧ Below B w w' ∧ Fr GR w w') ∨
      ((∀ i, i < l.length → ¬ Hit l n s i) ∧ e = .returned (.int .i64 0) ∧ ∃ v', RS w' B g v' (l ++ [(n, s, x)]) n ∧ Below B w w' ∧ Fr GR w w') := by
  have hc1 : w.cell? ⟨g, 1, none⟩ = some (.int .i64 n) := (blk_cell p.out.cell 1).trans rfl
  go_enter Try.func16, Try.ntmps16
  go_wp2
  go_loopw [7] (fun i wr => ∃ k q : Nat, k ≤ l.length ∧ i = .int .i64 k ∧ wr = w.drewN q ∧ Aside0 (∀ i, i < k → ¬ Hit l n s i)) (fun i _ => l.length - (intOf i).toNat)
  case atStart => exact ⟨0, 0, by omega, rfl, rfl, ⟨fun i hi => absurd hi (by omega)⟩⟩
  case round =>
    obtain ⟨k, q, hk, rfl, rfl, hno⟩ := hrel
    by_cases hlt : k < l.length
    · obtain ⟨b, c, rfl, hnc, a0, a1, a2⟩ := row_at p.out k hlt
      have hc0 : w.cell? ⟨g, 0, none⟩ = some (.slice (some ⟨b, 0, none⟩) l.length c) := (blk_cell p.out.cell 0).trans rfl
      have hap := add_plain b (k * 3)
      have q0 : (0 : Int) ≤ (k : Int) := by omega
      have q2 : (k : Int) < (l.length : Int) := by omega
      have hend : ∀ q, ∃ v', RS (w.drewN q) B g v' l n ∧ Below B w (w.drewN q) ∧ Fr GR w (w.drewN q) := fun q => ⟨_, rs_drewN p.out q, ⟨rfl, rfl, rfl, Nat.le_refl _, fun _ _ => rfl⟩, ⟨rfl, rfl, rfl, Nat.le_refl _, fun _ _ h _ => h⟩⟩
      have hend := Aside0.mk hend
      have hhit : Aside0 (Hit l n s k ↔ (l.getD k (0, ⟨#[]⟩, 0)).1 = n ∧ (l.getD k (0, ⟨#[]⟩, 0)).2.1 = s) := ⟨Iff.rfl⟩
      generalize (l.getD k (0, ⟨#[]⟩, 0)).1 = u0 at *
      generalize (l.getD k (0, ⟨#[]⟩, 0)).2.1 = u1 at *
      clear a2
      by_cases hu : u0 = n
      · subst hu
        by_cases hs : u1 = s
        · subst hs
          have hs2 : (u1 == u1) = true := by rw [MapKept.bytes_beq]
          go_wp2
          go_quiet (fail)
          go_wp2
          go_ret
          rw [World.drewN_drewN]
          refine .inl ⟨⟨k, hlt, hhit.out.2 ⟨by first | rfl | trivial, by first | rfl | trivial⟩⟩, by first | rfl | simp, ?_⟩
          exact hend.out _
        · have hs2 : (u1 == s) = false := by rw [← Bool.not_eq_true, MapKept.bytes_beq]; exact hs
          have hs3 : (u1.toList == s.toList) = false := by rw [← beq_toListBytes]; exact hs2
          have hno2 : ∀ i, i < k + 1 → ¬ Hit l u0 s i := fun i hi => by
            rcases Nat.lt_succ_iff_lt_or_eq.1 hi with h | rfl
            · exact hno.out i h
            · rw [hhit.out]; exact fun h => hs h.2
          have hno2 := Aside0.mk hno2
          clear hno hhit hend hs
          go_wp2
          go_quiet (fail)
          go_wp2
          exact ⟨⟨k + 1, q + nq, by omega, by go_num, rfl, hno2⟩, by simp [intOf]; omega⟩
      · have hu2 : (u0 == n) = false := by simpa using hu
        have hno2 : ∀ i, i < k + 1 → ¬ Hit l n s i := fun i hi => by
          rcases Nat.lt_succ_iff_lt_or_eq.1 hi with h | rfl
          · exact hno.out i h
          · rw [hhit.out]; exact fun h => hu h.1
        have hno2 := Aside0.mk hno2
        clear hno hhit hend
        go_wp2
        go_quiet (fail)
        go_wp2
        exact ⟨⟨k + 1, q + nq, by omega, by go_num, rfl, hno2⟩, by simp [intOf]; omega⟩
    · obtain rfl : k = l.length := by omega
      obtain ⟨A, c, rfl, hnc, _⟩ := own_slice p.out.row
      have hc0 : w.cell? ⟨g, 0, none⟩ = some (.slice A l.length c) := (blk_cell p.out.cell 0).trans rfl
      have hp2 := fun q => rs_drewN p.out q
      have hp2 := Aside0.mk hp2
      have hBq : Aside0 (∀ q, Below B w (w.drewN q)) := ⟨fun q => ⟨rfl, rfl, rfl, Nat.le_refl _, fun _ _ => rfl⟩⟩
      have hFq : Aside0 (∀ q, Fr GR w (w.drewN q)) := ⟨fun q => ⟨rfl, rfl, rfl, Nat.le_refl _, fun _ _ h _ => h⟩⟩
      go_wp2
      have hp3 : Aside0 (RS (w.drewN q) B g (.slice A l.length c) l n) := ⟨hp2.out q⟩
      have hB3 := Aside0.mk (hBq.out q)
      have hF3 := Aside0.mk (hFq.out q)
      have d0 : (w.drewN q).cell? ⟨g, 0, none⟩ = some (.slice A l.length c) := hc0
      have d1 : (w.drewN q).cell? ⟨g, 1, none⟩ = some (.int .i64 n) := hc1
      have hsz : B ≤ (w.drewN q).heap.size := hB
      clear hp2 hBq hFq hc0 hc1 p hB
      generalize w.drewN q = w2 at *
      have hp4 : Aside0 (RS w2.drew B g (.slice A l.length c) l n) := ⟨rs_drewN hp3.out 1⟩
      have hone : ∀ u ∈ [Value.int .i64 n, .string s, .int .i64 x], u.oneCell' = true := by simp [Value.oneCell']
      have hlm2 : (l.length + 1) * 32 ≤ 140737488355328 := by omega
      have hal0 : (w2.alloc (.cells #[.int .i64 n, .string s, .int .i64 x] 52)).cell? ⟨g, 0, none⟩ = some (.slice A l.length c) := (blk_cell (blk_alloc hp3.out.cell _) 0).trans rfl
      go_region_law (
        (refine step_append_cells (w0 := w2.drew) (W := w2.drew) B (by rfl) (.tmp 46) (.tmp 54) 31 52 (.agg #[.int .i64 0, .string ⟨#[]⟩, .int .i64 0]) 3 32 rfl Try.underlying31 info52 rfl (by decide) (by decide) (.slice A l.length c) l.length (cells l) [.int .i64 n, .string s, .int .i64 x] (by rfl) (by rfl) rfl hone hp4.out.row (Below.refl _ _) hsz hlm2 ?_
         intro v1 w1 hown hbel hgr hat
         have hc1 : w1.heap[g]? = some (.cells #[.slice A l.length c, .int .i64 n] 33 (0, 0)) := blk_grown hp4.out.cell hgr (fun e => own_ne hp4.out.row hp4.out.cell (by decide) g e.symm rfl)
         have hend := Aside0.mk (rdeclare_end hp4.out (n, s, x) hown hbel hgr hc1)
         obtain ⟨A1, k1, rfl, _⟩ := own_slice hown
         have hcc1 : w1.cell? ⟨g, 0, none⟩ = some (.slice A l.length c) := (blk_cell hc1 0).trans rfl
         have hf1 : w1.frozen? ⟨g, 0, none⟩ = false := blk_frozen hc1 0))
      all_goals go_wp2
      all_goals
        go_ret
        refine .inr ⟨hno.out, by first | rfl | simp, _, hend.out.1, ?_, ?_⟩
        · exact (hB3.out.trans (show Below B w2 w2.drew from ⟨rfl, rfl, rfl, Nat.le_refl _, fun _ _ => rfl⟩)).trans hend.out.2.1
        · exact (hF3.out.trans (show Fr GR w2 w2.drew from ⟨rfl, rfl, rfl, Nat.le_refl _, fun _ _ h _ => h⟩)).trans hend.out.2.2
end Go.Proofs.Ytojmhcmgnndfgaa.Sc
