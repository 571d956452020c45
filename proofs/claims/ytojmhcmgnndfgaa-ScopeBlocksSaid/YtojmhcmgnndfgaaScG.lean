/- Scopes: the program's Find. -/
import Derived.Test.YtojmhcmgnndfgaaScF
namespace Go.Proofs.Ytojmhcmgnndfgaa.Sc
open Go.RowKit Go.Proofs.YtojmhcmgnndfgaaW.PrintWords
set_option linter.unusedVariables false
set_option linter.unusedSimpArgs false

/-- A name in blocks, the innermost first. -/
def pfR : List Blk → ByteArray → Int × Bool
  | [], _ => (0, false)
  | es :: r, s => if (get es s).2 = true then ((get es s).1, true) else pfR r s
def pf (st : List Blk) (s : ByteArray) : Int × Bool := pfR st.reverse s
theorem take_rev {α : Type} (l : List α) (d : α) (k : Nat) (h : k < l.length) : (l.take (k + 1)).reverse = l.getD k d :: (l.take k).reverse := by
  rw [List.take_succ_eq_append_getElem h, List.reverse_append, List.getD_eq_getElem?_getD, List.getElem?_eq_getElem h]
  rfl

set_option maxHeartbeats 4000000 in
set_option maxRecDepth 100000 in
theorem find_0 {w : World} {p : Value} (s : ByteArray) (h : Aside0 (Dp p 0 w)) : Calls Try.prog 10 #[p, .string s] w fun e w' => e = .returned (.tuple #[.int .i64 0, .bool false]) ∧ w = w' := by
  go_enter Try.func10, Try.ntmps10
  go_wp2_with ((with_reducible refine (Dp.call h.out).mono ?_); rintro e w' ⟨rfl, rfl⟩)
  refine wp_loop_rounds 1 ?_
  rw [rounds_succ]
  go_wp2
  go_ret2
  exact ⟨rfl, rfl⟩

set_option maxHeartbeats 4000000 in
set_option maxRecDepth 100000 in
theorem find {w : World} {B g : Nat} {v : Value} {ms : List Nat} {st : List Blk} (p : Aside0 (PS w B g v ms st)) (s : ByteArray) (h1 : st.length ≤ 8796093022208) :
    Calls Try.prog 10 #[.pointer (some ⟨g, 0, none⟩), .string s] w fun e w' => e = .returned (.tuple #[.int .i64 (pf st s).1, .bool (pf st s).2]) ∧ w = w' := by
  have hd := Aside0.mk (depth p.out)
  have hfull : Aside0 (pfR (st.take st.length).reverse s = pf st s) := ⟨by rw [List.take_length]; rfl⟩
  have hwr : IntKind.i64.wrap ((st.length : Int) - 1) = (st.length : Int) - 1 := IntWalk.i64_in _ (by omega)
  go_enter Try.func10, Try.ntmps10
  go_wp2_with ((with_reducible refine (Dp.call hd.out).mono ?_); rintro e w' ⟨rfl, rfl⟩)
  go_loopw [6] (fun i wr => ∃ z : Int, -1 ≤ z ∧ z < st.length ∧ i = .int .i64 z ∧ wr = w ∧ Aside0 (pfR (st.take (z + 1).toNat).reverse s = pf st s)) (fun i _ => (intOf i + 1).toNat)
  case atStart => exact ⟨(st.length : Int) - 1, by omega, by omega, by first | rfl | go_num, rfl, ⟨by rw [show ((st.length : Int) - 1 + 1).toNat = st.length by omega]; exact hfull.out⟩⟩
  case round =>
    obtain ⟨z, hz0, hz1, rfl, rfl, hR⟩ := hrel
    by_cases hz : 0 ≤ z
    · obtain ⟨k, rfl⟩ := Int.eq_ofNat_of_zero_le hz
      have hk : k < st.length := by omega
      obtain ⟨b, c, m, rfl, hcm, hM, -⟩ := top p.out k hk
      have hc0 : wr.cell? ⟨g, 0, none⟩ = some (.slice (some ⟨b, 0, none⟩) st.length c) := (blk_cell p.out.cell 0).trans rfl
      have hl := look hM s
      have hR' := hR.out
      rw [show ((k : Int) + 1).toNat = k + 1 by omega, take_rev st [] k hk] at hR'
      unfold pfR at hR'
      have ha := add_plain b k
      have hwk : IntKind.i64.wrap ((k : Int) - 1) = (k : Int) - 1 := IntWalk.i64_in _ (by omega)
      have q0 : (0 : Int) ≤ (k : Int) := by omega
      have q2 : (k : Int) < (st.length : Int) := by omega
      cases ht : (get (st.getD k []) s).2
      · rw [ht] at hl hR'
        rw [if_neg (by simp)] at hR'
        have hR' := Aside0.mk hR'
        clear hR hM
        go_wp2
        go_roundw
        case rel => exact ⟨(k : Int) - 1, by omega, by omega, by first | rfl | go_num, by first | trivial | rfl, ⟨by rw [show ((k : Int) - 1 + 1).toNat = k by omega]; exact hR'.out⟩⟩
        case measure => simp [intOf]
      · rw [ht] at hl hR'
        rw [if_pos rfl] at hR'
        have hR' := Aside0.mk hR'
        clear hR hM
        generalize (get (st.getD k []) s).1 = y at *
        go_wp2
        go_ret2
        exact ⟨by rw [← hR'.out]; first | rfl | simp, rfl⟩
    · obtain rfl : z = -1 := by omega
      have hR' := hR.out
      have hR' : Aside0 (((0 : Int), false) = pf st s) := ⟨hR'⟩
      clear hR
      go_wp2
      go_ret2
      exact ⟨by rw [← hR'.out]; first | rfl | simp, rfl⟩
end Go.Proofs.Ytojmhcmgnndfgaa.Sc
