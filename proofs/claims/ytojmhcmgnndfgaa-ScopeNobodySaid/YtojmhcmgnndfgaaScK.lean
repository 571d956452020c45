/- Scopes: the reference's Find. -/
import Derived.Test.YtojmhcmgnndfgaaScJ
namespace Go.Proofs.Ytojmhcmgnndfgaa.Sc
open Go.RowKit Go.Proofs.YtojmhcmgnndfgaaW.PrintWords
set_option linter.unusedVariables false
set_option linter.unusedSimpArgs false

/-- A name in entries, the last first. -/
def rfR : List Ent → ByteArray → Int × Bool
  | [], _ => (0, false)
  | e :: r, s => if e.2.1 = s then (e.2.2, true) else rfR r s
def rf (l : List Ent) (s : ByteArray) : Int × Bool := rfR l.reverse s

set_option maxHeartbeats 4000000 in
set_option maxRecDepth 100000 in
theorem rfind {w : World} {B g : Nat} {v : Value} {l : List Ent} {n : Int} (p : Aside0 (RS w B g v l n)) (s : ByteArray) (h1 : l.length ≤ 8796093022208) :
    Calls Try.prog 11 #[.pointer (some ⟨g, 0, none⟩), .string s] w fun e w' => e = .returned (.tuple #[.int .i64 (rf l s).1, .bool (rf l s).2]) ∧ w = w' := by
  have hfull : Aside0 (rfR (l.take l.length).reverse s = rf l s) := ⟨by rw [List.take_length]; rfl⟩
  have hwr : IntKind.i64.wrap ((l.length : Int) - 1) = (l.length : Int) - 1 := IntWalk.i64_in _ (by omega)
  obtain ⟨A, c, rfl, hnc, _⟩ := own_slice p.out.row
  have hc0 : w.cell? ⟨g, 0, none⟩ = some (.slice A l.length c) := (blk_cell p.out.cell 0).trans rfl
  go_enter Try.func11, Try.ntmps11
  go_wp2
  go_loopw [6] (fun i wr => ∃ z : Int, -1 ≤ z ∧ z < l.length ∧ i = .int .i64 z ∧ wr = w ∧ Aside0 (rfR (l.take (z + 1).toNat).reverse s = rf l s)) (fun i _ => (intOf i + 1).toNat)
  case atStart => exact ⟨(l.length : Int) - 1, by omega, by omega, by first | rfl | go_num, by first | trivial | rfl, ⟨by rw [show ((l.length : Int) - 1 + 1).toNat = l.length by omega]; exact hfull.out⟩⟩
  case round =>
    obtain ⟨z, hz0, hz1, rfl, rfl, hR⟩ := hrel
    by_cases hz : 0 ≤ z
    · obtain ⟨k, rfl⟩ := Int.eq_ofNat_of_zero_le hz
      have hk : k < l.length := by omega
      obtain ⟨b, c, he, hnc, a0, a1, a2⟩ := row_at p.out k hk
      cases he
      have hR' := hR.out
      rw [show ((k : Int) + 1).toNat = k + 1 by omega, take_rev l (0, ⟨#[]⟩, 0) k hk] at hR'
      unfold rfR at hR'
      have ha := add_plain b (k * 3)
      have hwk : IntKind.i64.wrap ((k : Int) - 1) = (k : Int) - 1 := IntWalk.i64_in _ (by omega)
      have q0 : (0 : Int) ≤ (k : Int) := by omega
      have q2 : (k : Int) < (l.length : Int) := by omega
      clear a0
      generalize (l.getD k (0, ⟨#[]⟩, 0)).2.1 = u1 at *
      generalize (l.getD k (0, ⟨#[]⟩, 0)).2.2 = u2 at *
      by_cases hs : u1 = s
      · rw [if_pos hs] at hR'
        have hR' := Aside0.mk hR'
        subst hs
        have hs2 : (u1 == u1) = true := by rw [MapKept.bytes_beq]
        have hs3 : (u1.toList == u1.toList) = true := by rw [← beq_toListBytes]; exact hs2
        clear hR
        go_wp2
        go_ret2
        exact ⟨by rw [← hR'.out]; first | rfl | simp, rfl⟩
      · rw [if_neg hs] at hR'
        have hR' := Aside0.mk hR'
        have hs2 : (u1 == s) = false := by rw [← Bool.not_eq_true, MapKept.bytes_beq]; exact hs
        have hs3 : (u1.toList == s.toList) = false := by rw [← beq_toListBytes]; exact hs2
        clear hR hs
        go_wp2
        go_roundw
        case rel => exact ⟨(k : Int) - 1, by omega, by omega, by first | rfl | go_num, by first | trivial | rfl, ⟨by rw [show ((k : Int) - 1 + 1).toNat = k by omega]; exact hR'.out⟩⟩
        case measure => simp [intOf]
    · obtain rfl : z = -1 := by omega
      have hR' := hR.out
      have hR' : Aside0 (((0 : Int), false) = rf l s) := ⟨hR'⟩
      clear hR
      go_wp2
      go_ret2
      exact ⟨by rw [← hR'.out]; first | rfl | simp, rfl⟩
end Go.Proofs.Ytojmhcmgnndfgaa.Sc
