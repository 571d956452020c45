/- Scopes: the reference's New, Enter, Leave. -/
import Derived.Test.YtojmhcmgnndfgaaScG
namespace Go.Proofs.Ytojmhcmgnndfgaa.Sc
open Go.RowKit Go.Proofs.YtojmhcmgnndfgaaW.PrintWords
set_option linter.unusedVariables false
set_option linter.unusedSimpArgs false

set_option maxHeartbeats 4000000 in
set_option maxRecDepth 100000 in
theorem rnew (w : World) : Calls Try.prog 7 #[] w fun e w' => ∃ g v, e = .returned (.pointer (some ⟨g, 0, none⟩)) ∧ RS w' w.heap.size g v [] 1 ∧ Below w.heap.size w w' := by
  go_enter Try.func7, Try.ntmps7
  go_wp2
  go_ret
  exact ⟨w.heap.size, .slice none 0 0, by first | rfl | simp, ⟨blk_new w _, World.ownsRow_nil _ _ _ _, Nat.le_refl _⟩, below_alloc (Below.refl _ _) _⟩

theorem renter_end {w : World} {B g : Nat} {v : Value} {l : List Ent} {n : Int} (p : RS w B g v l n) (n' : Int) :
    RS (w.setCell ⟨g, 1, none⟩ (.int .i64 n')) B g v l n' ∧ Below B w (w.setCell ⟨g, 1, none⟩ (.int .i64 n')) ∧ Fr GR w (w.setCell ⟨g, 1, none⟩ (.int .i64 n')) := by
  have far : ∀ j, j ≠ g → (w.setCell ⟨g, 1, none⟩ (.int .i64 n')).heap[j]? = w.heap[j]? := fun j hj => Below.heap_setCell _ _ _ _ hj
  refine ⟨⟨blk_put p.cell 1 _ rfl, own_move p.row (fun k hk => far k (own_ne p.row p.cell (by decide) k hk)), p.bg⟩, (Below.refl B w).setCell (p := ⟨g, 1, none⟩) p.bg _, ⟨rfl, rfl, rfl, by simp, fun k o hk hG => ?_⟩⟩
  rw [far k (fun e => by rw [e, p.cell] at hk; cases hk; simp [GR] at hG), hk]
theorem rcut_end {w : World} {B g c : Nat} {A : Option Addr} {l : List Ent} {n : Int} (p : RS w B g (.slice A l.length c) l n) (k : Nat) (hk : k ≤ l.length) (q : Nat) :
    RS ((w.drewN q).setCell ⟨g, 0, none⟩ (.slice A k c)) B g (.slice A k c) (l.take k) n ∧ Below B w ((w.drewN q).setCell ⟨g, 0, none⟩ (.slice A k c)) ∧ Fr GR w ((w.drewN q).setCell ⟨g, 0, none⟩ (.slice A k c)) := by
  have far : ∀ j, j ≠ g → ((w.drewN q).setCell ⟨g, 0, none⟩ (.slice A k c)).heap[j]? = w.heap[j]? := fun j hj => Below.heap_setCell _ _ _ _ hj
  have hc : (w.drewN q).heap[g]? = some (.cells #[.slice A l.length c, .int .i64 n] 33 (0, 0)) := p.cell
  refine ⟨⟨blk_put hc 0 _ rfl, ?_, p.bg⟩, (show Below B w (w.drewN q) from ⟨rfl, rfl, rfl, Nat.le_refl _, fun _ _ => rfl⟩).setCell (p := ⟨g, 0, none⟩) p.bg _, ⟨rfl, rfl, rfl, by simp, fun k o hk hG => ?_⟩⟩
  · have := own_cut p.row k hk
    rw [cells_take] at this
    rw [show (l.take k).length = k by rw [List.length_take]; omega]
    exact own_move this (fun j hj => far j (own_ne this p.cell (by decide) j hj))
  · rw [far k (fun e => by rw [e, p.cell] at hk; cases hk; simp [GR] at hG), hk]

set_option maxHeartbeats 4000000 in
set_option maxRecDepth 100000 in
theorem renter {w : World} {B g : Nat} {v : Value} {l : List Ent} {n : Int} (p : Aside0 (RS w B g v l n)) (h0 : 0 ≤ n) (h1 : n ≤ 35184372088832) :
    Calls Try.prog 17 #[.pointer (some ⟨g, 0, none⟩)] w fun e w' => e = .returned (.tuple #[]) ∧ RS w' B g v l (n + 1) ∧ Below B w w' ∧ Fr GR w w' := by
  have hend := Aside0.mk (renter_end p.out (n + 1))
  have hc1 : w.cell? ⟨g, 1, none⟩ = some (.int .i64 n) := (blk_cell p.out.cell 1).trans rfl
  have hf1 : w.frozen? ⟨g, 1, none⟩ = false := blk_frozen p.out.cell 1
  have hwr : IntKind.i64.wrap (n + 1) = n + 1 := IntWalk.i64_in _ (by omega)
  clear p
  go_enter Try.func17, Try.ntmps17
  go_wp2
  go_end0
  exact ⟨rfl, hend.out⟩
set_option maxHeartbeats 4000000 in
set_option maxRecDepth 100000 in
theorem rleave_no {w : World} {B g : Nat} {v : Value} {l : List Ent} {n : Int} (p : Aside0 (RS w B g v l n)) (h : n < 2) :
    Calls Try.prog 18 #[.pointer (some ⟨g, 0, none⟩)] w fun e w' => e = .returned (.int .i64 4) ∧ w = w' := by
  have hc1 : w.cell? ⟨g, 1, none⟩ = some (.int .i64 n) := (blk_cell p.out.cell 1).trans rfl
  clear p
  go_enter Try.func18, Try.ntmps18
  go_wp2
  go_ret
  exact ⟨rfl, rfl⟩
end Go.Proofs.Ytojmhcmgnndfgaa.Sc
