/- Scopes: the reference's Leave, where there is a block to leave. -/
import Derived.Test.YtojmhcmgnndfgaaScH
namespace Go.Proofs.Ytojmhcmgnndfgaa.Sc
open Go.RowKit Go.Proofs.YtojmhcmgnndfgaaW.PrintWords
set_option linter.unusedVariables false
set_option linter.unusedSimpArgs false

/-- What lies in the row. -/
theorem row_at {w : World} {B g : Nat} {v : Value} {l : List Ent} {n : Int} (p : RS w B g v l n) (i : Nat) (hi : i < l.length) : ∃ b c, v = .slice (some ⟨b, 0, none⟩) l.length c ∧ l.length ≤ c ∧
    w.cell? ⟨b, i * 3, none⟩ = some (.int .i64 (l.getD i (0, ⟨#[]⟩, 0)).1) ∧ w.cell? ⟨b, i * 3 + 1, none⟩ = some (.string (l.getD i (0, ⟨#[]⟩, 0)).2.1) ∧ w.cell? ⟨b, i * 3 + 2, none⟩ = some (.int .i64 (l.getD i (0, ⟨#[]⟩, 0)).2.2) := by
  obtain ⟨A, c, rfl, hnc, hcm, hA, hcell⟩ := own_slice p.row
  obtain ⟨b, rfl⟩ := hA (by omega)
  obtain ⟨_, hx⟩ := hcell _ rfl
  obtain ⟨h1, h2, h3⟩ := cells_at l i hi
  exact ⟨b, c, rfl, hnc, hx _ _ h1, hx _ _ h2, hx _ _ h3⟩

def slLen (w : World) (g : Nat) : Nat := match w.cell? ⟨g, 0, none⟩ with | some (.slice _ n _) => n | _ => 0
theorem getD_app {α : Type} (l r : List α) (d : α) (i : Nat) (h : i < l.length) : (l ++ r).getD i d = l.getD i d := by
  rw [List.getD_eq_getElem?_getD, List.getD_eq_getElem?_getD, List.getElem?_append_left h]
theorem getD_app2 {α : Type} (l r : List α) (d : α) (i : Nat) (h : l.length ≤ i) : (l ++ r).getD i d = r.getD (i - l.length) d := by
  rw [List.getD_eq_getElem?_getD, List.getD_eq_getElem?_getD, List.getElem?_append_right h]
theorem getD_mem {α : Type} (l : List α) (d : α) (i : Nat) (h : i < l.length) : l.getD i d ∈ l := by
  rw [List.getD_eq_getElem?_getD, List.getElem?_eq_getElem h]
  exact List.getElem_mem h

theorem fin {w wr : World} {B g : Nat} {v : Value} {l : List Ent} {n : Int} (p : RS wr B g v l n) (hB : Below B w wr) (hF : Fr GR w wr) (n' : Int) (q : Nat) :
    ∃ v, RS ((wr.drewN q).setCell ⟨g, 1, none⟩ (.int .i64 n')) B g v l n' ∧ Below B w ((wr.drewN q).setCell ⟨g, 1, none⟩ (.int .i64 n')) ∧ Fr GR w ((wr.drewN q).setCell ⟨g, 1, none⟩ (.int .i64 n')) := by
  obtain ⟨h1, h2, h3⟩ := renter_end (p.below (w' := wr.drewN q) ⟨rfl, rfl, rfl, Nat.le_refl _, fun _ _ => rfl⟩) n'
  exact ⟨v, h1, (hB.trans (show Below B wr (wr.drewN q) from ⟨rfl, rfl, rfl, Nat.le_refl _, fun _ _ => rfl⟩)).trans h2, (hF.trans (show Fr GR wr (wr.drewN q) from ⟨rfl, rfl, rfl, Nat.le_refl _, fun _ _ h _ => h⟩)).trans h3⟩
theorem next {w wr : World} {B g c k : Nat} {A : Option Addr} {l : List Ent} {n : Int} (p : RS wr B g (.slice A k c) (l.take k) n) (hk : k ≤ l.length) (hB : Below B w wr) (hF : Fr GR w wr) (q : Nat) :
    (∃ v, RS ((wr.drewN q).setCell ⟨g, 0, none⟩ (.slice A (k - 1) c)) B g v (l.take (k - 1)) n) ∧ Below B w ((wr.drewN q).setCell ⟨g, 0, none⟩ (.slice A (k - 1) c)) ∧ Fr GR w ((wr.drewN q).setCell ⟨g, 0, none⟩ (.slice A (k - 1) c)) ∧ slLen ((wr.drewN q).setCell ⟨g, 0, none⟩ (.slice A (k - 1) c)) g = k - 1 ∧ slLen wr g = k := by
  have hlen : (l.take k).length = k := by rw [List.length_take]; omega
  have p' : RS wr B g (.slice A (l.take k).length c) (l.take k) n := by rw [hlen]; exact p
  obtain ⟨h1, h2, h3⟩ := rcut_end p' (k - 1) (by omega) q
  rw [List.take_take, Nat.min_eq_left (by omega)] at h1
  refine ⟨⟨_, h1⟩, hB.trans h2, hF.trans h3, ?_, ?_⟩
  · unfold slLen
    rw [blk_cell h1.cell 0]
    rfl
  · unfold slLen
    rw [blk_cell p.cell 0]
    rfl

set_option maxHeartbeats 8000000 in
set_option maxRecDepth 100000 in
theorem rleave {w : World} {B g : Nat} {v : Value} {l : List Ent} {n : Int} (p : Aside0 (RS w B g v l n)) (k0 : Nat) (hk0 : k0 ≤ l.length) (hl0 : k0 = 0 ∨ (l.getD (k0 - 1) (0, ⟨#[]⟩, 0)).1 ≠ n) (hl1 : ∀ i, k0 ≤ i → i < l.length → (l.getD i (0, ⟨#[]⟩, 0)).1 = n) (h0 : 2 ≤ n) (h1 : n ≤ 35184372088832) (hlm : l.length ≤ 35184372088832) :
    Calls Try.prog 18 #[.pointer (some ⟨g, 0, none⟩)] w fun e w' => e = .returned (.int .i64 0) ∧ ∃ v', RS w' B g v' (l.take k0) (n - 1) ∧ Below B w w' ∧ Fr GR w w' := by
  have hc1 : w.cell? ⟨g, 1, none⟩ = some (.int .i64 n) := (blk_cell p.out.cell 1).trans rfl
  have hst : Aside0 (∃ v, RS w B g v (l.take l.length) n) := ⟨v, by rw [List.take_length]; exact p.out⟩
  have hl0 := Aside0.mk hl0
  have hl1 := Aside0.mk hl1
  clear p
  go_enter Try.func18, Try.ntmps18
  go_wp2
  go_loopw [8] (fun i wr => ∃ k : Nat, k0 ≤ k ∧ k ≤ l.length ∧ Aside0 (∃ v, RS wr B g v (l.take k) n) ∧ Aside0 (Below B w wr) ∧ Aside0 (Fr GR w wr)) (fun _ wr => slLen wr g)
  case atStart => exact ⟨l.length, hk0, Nat.le_refl _, hst, ⟨Below.refl _ _⟩, ⟨Fr.refl _ _⟩⟩
  case round =>
    obtain ⟨k, hka, hkb, hp, hB, hF⟩ := hrel
    clear hst hc1
    obtain ⟨v1, hp⟩ := hp.out
    have hlen : (l.take k).length = k := by rw [List.length_take]; omega
    have hc1 : wr.cell? ⟨g, 1, none⟩ = some (.int .i64 n) := (blk_cell hp.cell 1).trans rfl
    by_cases hk : k = 0
    · subst hk
      obtain ⟨A, c, rfl, hnc, _⟩ := own_slice hp.row
      have hc0 : wr.cell? ⟨g, 0, none⟩ = some (.slice A 0 c) := (blk_cell hp.cell 0).trans rfl
      have hk00 : k0 = 0 := by omega
      have hfin := fun q => fin hp hB.out hF.out (n - 1) q
      have hfin := Aside0.mk hfin
      have hwn : IntKind.i64.wrap (n - 1) = n - 1 := IntWalk.i64_in _ (by omega)
      have hf1 : wr.frozen? ⟨g, 1, none⟩ = false := blk_frozen hp.cell 1
      clear hp hl0 hl1 hB hF
      subst hk00
      go_wp2
      go_quiet (fail)
      go_wp2
      go_ret
      exact ⟨rfl, hfin.out _⟩
    · obtain ⟨b, c, rfl, hnc, e0, e1, e2⟩ := row_at hp (k - 1) (by omega)
      rw [hlen] at hnc
      have hp' : RS wr B g (.slice (some ⟨b, 0, none⟩) k c) (l.take k) n := by rw [hlen] at hp; exact hp
      have hnext := fun q => next hp' hkb hB.out hF.out q
      have hnext := Aside0.mk hnext
      have hfin := fun q => fin hp' hB.out hF.out (n - 1) q
      have hfin := Aside0.mk hfin
      have hwn : IntKind.i64.wrap (n - 1) = n - 1 := IntWalk.i64_in _ (by omega)
      have hf1 : wr.frozen? ⟨g, 1, none⟩ = false := blk_frozen hp.cell 1
      have hf0 : wr.frozen? ⟨g, 0, none⟩ = false := blk_frozen hp.cell 0
      have hc0 : wr.cell? ⟨g, 0, none⟩ = some (.slice (some ⟨b, 0, none⟩) k c) := by rw [← hlen]; exact (blk_cell hp.cell 0).trans rfl
      rw [getD_take _ _ _ _ (by omega)] at e0
      have hap := add_plain b ((k - 1) * 3)
      have hwr : IntKind.i64.wrap ((k : Int) - 1) = (k : Int) - 1 := IntWalk.i64_in _ (by omega)
      have q0 : (0 : Int) ≤ (k : Int) - 1 := by omega
      have q1 : ((k : Int) - 1).toNat = k - 1 := by omega
      have q2 : (k : Int) - 1 < (k : Int) := by omega
      have q3 : (0 : Int) < (k : Int) := by omega
      have q4 : 0 < k := by omega
      clear e1 e2 hp hp' hB hF
      by_cases hkk : k0 < k
      · have hn := hl1.out (k - 1) (by omega) (by omega)
        rw [hn] at e0
        clear hn
        have hsl : ∀ W : World, (Instr.slice 31 (.slice (some ⟨b, 0, none⟩) k c) none (some (.int .i64 ((k : Int) - 1))) none).run Try.prog W = .ok (.slice (some ⟨b, 0, none⟩) (k - 1) c) W := by
          obtain ⟨i0, hi, _⟩ := Option.map_eq_some_iff.1 info52
          have := cut_to 31 52 .i64 Try.underlying31 hi (some ⟨b, 0, none⟩) k c ((k : Int) - 1) (by omega) (by omega) hnc
          rw [q1] at this
          exact this
        clear hl0 hl1 hfin
        go_wp2
        go_quiet (fail)
        go_wp2
        have hnx : Aside0 ((∃ v, RS ((wr.drewN nq).drew.setCell ⟨g, 0, none⟩ (.slice (some ⟨b, 0, none⟩) (k - 1) c)) B g v (l.take (k - 1)) n) ∧ Below B w ((wr.drewN nq).drew.setCell ⟨g, 0, none⟩ (.slice (some ⟨b, 0, none⟩) (k - 1) c)) ∧ Fr GR w ((wr.drewN nq).drew.setCell ⟨g, 0, none⟩ (.slice (some ⟨b, 0, none⟩) (k - 1) c)) ∧ slLen ((wr.drewN nq).drew.setCell ⟨g, 0, none⟩ (.slice (some ⟨b, 0, none⟩) (k - 1) c)) g = k - 1 ∧ slLen wr g = k) := ⟨hnext.out (nq + 1)⟩
        have d0 : (wr.drewN nq).cell? ⟨g, 0, none⟩ = some (.slice (some ⟨b, 0, none⟩) k c) := hc0
        have d1 : (wr.drewN nq).frozen? ⟨g, 0, none⟩ = false := hf0
        clear hnext hc0 hc1 e0 hf0 hf1
        generalize wr.drewN nq = w2 at *
        go_still_tail 14, (by kernel_rfl)
        change wpList _ _ _ _ _ w2.drew
        go_wp2
        go_roundw
        case rel => exact ⟨k - 1, by omega, by omega, ⟨hnx.out.1⟩, ⟨hnx.out.2.1⟩, ⟨hnx.out.2.2.1⟩⟩
        case measure =>
          have h4 := hnx.out.2.2.2.1
          rw [hnx.out.2.2.2.2]
          exact Nat.lt_of_le_of_lt (Nat.le_of_eq h4) (by omega)
      · obtain rfl : k = k0 := by omega
        have hn := hl0.out.resolve_left (by omega)
        clear hl0 hl1 hnext
        generalize (l.getD (k - 1) (0, ⟨#[]⟩, 0)).1 = x at *
        have hn2 : (x == n) = false := by simpa using hn
        go_wp2
        go_quiet (fail)
        go_wp2
        go_ret
        exact ⟨rfl, hfin.out _⟩
end Go.Proofs.Ytojmhcmgnndfgaa.Sc
