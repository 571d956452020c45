/- Scopes: the program's Leave. -/
import Derived.Test.YtojmhcmgnndfgaaScD
import Derived.StillTailTactics
namespace Go.Proofs.Ytojmhcmgnndfgaa.Sc
open Go.RowKit Go.Proofs.YtojmhcmgnndfgaaW.PrintWords
set_option linter.unusedVariables false
set_option linter.unusedSimpArgs false

set_option maxHeartbeats 4000000 in
set_option maxRecDepth 100000 in
theorem leave_0 {w : World} {p : Value} (h : Aside0 (Dp p 0 w)) : Calls Try.prog 14 #[p] w fun e w' => e = .returned (.int .i64 1) ∧ w = w' := by
  go_enter Try.func14, Try.ntmps14
  go_wp2_with ((with_reducible refine (Dp.call h.out).mono ?_); rintro e w' ⟨rfl, rfl⟩)
  go_ret
  exact ⟨rfl, rfl⟩
set_option maxHeartbeats 4000000 in
set_option maxRecDepth 100000 in
theorem leave_1 {w : World} {p : Value} (h : Aside0 (Dp p 1 w)) : Calls Try.prog 14 #[p] w fun e w' => e = .returned (.int .i64 4) ∧ w = w' := by
  go_enter Try.func14, Try.ntmps14
  go_wp2_with ((with_reducible refine (Dp.call h.out).mono ?_); rintro e w' ⟨rfl, rfl⟩)
  go_ret
  exact ⟨rfl, rfl⟩

theorem hnd_take (ms : List Nat) (k : Nat) : (hnd ms).take (k * 1) = hnd (ms.take k) := by simp [hnd, List.map_take]
theorem getD_take {α : Type} (l : List α) (d : α) (i k : Nat) (h : i < k) : (l.take k).getD i d = l.getD i d := by
  rw [List.getD_eq_getElem?_getD, List.getD_eq_getElem?_getD, List.getElem?_take_of_lt h]
theorem leave_end {w w1 : World} {B g c : Nat} {A : Option Addr} {ms : List Nat} {st : List Blk} (p : PS w B g (.slice A ms.length c) ms st) (k : Nat) (hk : k ≤ ms.length) (hd : ∃ n, w1 = w.drewN n) :
    PS (w1.setCell ⟨g, 0, none⟩ (.slice A k c)) B g (.slice A k c) (ms.take k) (st.take k) ∧ Below B w (w1.setCell ⟨g, 0, none⟩ (.slice A k c)) ∧ Fr GP w (w1.setCell ⟨g, 0, none⟩ (.slice A k c)) := by
  obtain ⟨n, rfl⟩ := hd
  have hlen := p.len
  have e0 : (ms.take k).length = k := by rw [List.length_take]; omega
  have far : ∀ j, j ≠ g → ((w.drewN n).setCell ⟨g, 0, none⟩ (.slice A k c)).heap[j]? = w.heap[j]? := fun j hj => Below.heap_setCell _ _ _ _ hj
  have hc : (w.drewN n).heap[g]? = some (.cells #[.slice A ms.length c] 44 (0, 0)) := p.cell
  refine ⟨⟨blk_put hc 0 _ rfl, ?_, by rw [e0, List.length_take]; omega, fun i hi => ?_, ?_, p.bg, fun m hm => p.bm m (List.mem_of_mem_take hm)⟩, ?_, ?_⟩
  · rw [e0, ← hnd_take]
    have := own_cut p.row k hk
    exact own_move this (fun j hj => far j (own_ne this p.cell (by decide) j hj))
  · rw [e0] at hi
    rw [getD_take _ _ _ _ hi, getD_take _ _ _ _ hi]
    obtain ⟨es, c', hb, he⟩ := p.mps i (by omega)
    exact ⟨es, c', (far _ (fun e => by rw [e, p.cell] at hb; cases hb)).trans hb, he⟩
  · exact p.nd.sublist (List.take_sublist _ _)
  · exact (show Below B w (w.drewN n) from ⟨rfl, rfl, rfl, Nat.le_refl _, fun _ _ => rfl⟩).setCell (p := ⟨g, 0, none⟩) p.bg _
  · refine ⟨rfl, rfl, rfl, by simp, fun j o hj hG => ?_⟩
    have hkg : j ≠ g := fun e => by
      rw [e, p.cell] at hj
      cases hj
      simp [GP] at hG
    rw [far j hkg, hj]

set_option maxHeartbeats 4000000 in
set_option maxRecDepth 100000 in
theorem leave {w : World} {B g : Nat} {v : Value} {ms : List Nat} {st : List Blk} (p : Aside0 (PS w B g v ms st)) (h2 : 2 ≤ st.length) (h1 : st.length ≤ 8796093022208) :
    Calls Try.prog 14 #[.pointer (some ⟨g, 0, none⟩)] w fun e w' => e = .returned (.int .i64 0) ∧ ∃ v' ms', PS w' B g v' ms' (st.take (st.length - 1)) ∧ Below B w w' ∧ Fr GP w w' := by
  have hlen := p.out.len
  obtain ⟨A, c, rfl, hnc, hcm, _⟩ := own_slice p.out.row
  have hend := fun w1 hd => leave_end (w1 := w1) p.out (st.length - 1) (by omega) hd
  have hd := Aside0.mk (depth p.out)
  rw [hlen] at hnc
  have hc0 : w.cell? ⟨g, 0, none⟩ = some (.slice A st.length c) := by rw [← hlen]; exact (blk_cell p.out.cell 0).trans rfl
  have hf0 : w.frozen? ⟨g, 0, none⟩ = false := blk_frozen p.out.cell 0
  have hsl : ∀ W : World, (Instr.slice 42 (.slice A st.length c) none (some (.int .i64 ((st.length : Int) - 1))) none).run Try.prog W = .ok (.slice A (st.length - 1) c) W := by
    obtain ⟨i0, hi, _⟩ := Option.map_eq_some_iff.1 info47
    have := cut_to 42 47 .i64 Try.underlying42 hi A st.length c ((st.length : Int) - 1) (by omega) (by omega) hnc
    rw [show ((st.length : Int) - 1).toNat = st.length - 1 by omega] at this
    exact this
  clear p hlen
  generalize st.length = n at *
  have hwr : IntKind.i64.wrap ((n : Int) - 1) = (n : Int) - 1 := IntWalk.i64_in _ (by omega)
  go_enter Try.func14, Try.ntmps14
  go_wp2_with ((with_reducible refine (Dp.call hd.out).mono ?_); rintro e w' ⟨rfl, rfl⟩)
  go_still_tail 14, (by kernel_rfl)
  change wpList _ _ _ _ _ w.drew
  go_wp2
  go_ret
  exact ⟨rfl, _, _, hend w.drew ⟨1, rfl⟩⟩
end Go.Proofs.Ytojmhcmgnndfgaa.Sc
