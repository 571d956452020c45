/- Images are told back by their bytes; another byte makes another image, or none. -/
import Derived.Test.YtbalpmpaccfpiaaParse
import Derived.Test.YtbalpmpaccfpiaaWalkBack
import Derived.Test.YtbalpmpaccfpiaaWalkBack2
namespace Go.Proofs.Ytbalpmpaccfpiaa.LawBack
open Go.RowKit Go.Proofs.Ytbalpmpaccfpiaa.Law1 Go.Proofs.Ytbalpmpaccfpiaa.Law2
set_option linter.unusedVariables false
set_option linter.unusedSimpArgs false

theorem xor_u8 (a b : Nat) (ha : a < 256) (hb : b < 256) :
    bits .xor .u8 (a : Int) (b : Int) = ((a ^^^ b : Nat) : Int) := by
  have hx : a ^^^ b < 2 ^ 8 := Nat.xor_lt_two_pow (by omega) (by omega)
  have h1 : (BitVec.ofInt 8 (a : Int)).toNat = a := by
    rw [BitVec.ofInt_natCast, BitVec.toNat_ofNat]; exact Nat.mod_eq_of_lt (by omega)
  have h2 : (BitVec.ofInt 8 (b : Int)).toNat = b := by
    rw [BitVec.ofInt_natCast, BitVec.toNat_ofNat]; exact Nat.mod_eq_of_lt (by omega)
  show IntKind.u8.wrap ((BitVec.ofInt 8 (a : Int) ^^^ BitVec.ofInt 8 (b : Int)).toNat : Int) = _
  rw [BitVec.toNat_xor, h1, h2, IntKind.wrap_u8]
  omega

                                                     

theorem xor_ne (a b : Nat) (ha : a < 256) (hb : b < 256) (h : b ≠ 0) : bits .xor .u8 (a : Int) (b : Int) ≠ a ∧ 0 ≤ bits .xor .u8 (a : Int) (b : Int) ∧ bits .xor .u8 (a : Int) (b : Int) < 256 := by
  have hx : a ^^^ b < 2 ^ 8 := Nat.xor_lt_two_pow (by omega) (by omega)
  rw [xor_u8 a b ha hb]
  refine ⟨fun e => h ?_, by omega, by omega⟩
  have e' : a ^^^ b = a := by exact_mod_cast e
  have := congrArg (a ^^^ ·) e'
  simpa [← Nat.xor_assoc] using this

theorem changed_size (s : ByteArray) (j : Nat) (by1 : Int) : (strOfNums (WalkBack2.nums s j by1)).size = s.size := by
  rw [strOfNums_size]
  simp [WalkBack2.nums]

theorem changed_ne (s : ByteArray) (j : Nat) (hj : j < s.size) (by1 : Int) (h0 : 0 ≤ by1) (h1 : by1 ≤ 255) (hby : (by1 == 0) = false) : strOfNums (WalkBack2.nums s j by1) ≠ s := by
  intro h
  obtain ⟨b, rfl⟩ : ∃ b : Nat, by1 = b := ⟨by1.toNat, by omega⟩
  have hj' : j < s.data.toList.length := by simpa using hj
  have hx := xor_ne (s.data.toList.getD j 0).toNat b (by have := (s.data.toList.getD j 0).toNat_lt; omega) (by omega) (by rintro rfl; simp at hby)
  have h2 := congrArg (fun t : ByteArray => (t.data.toList.getD j 0).toNat) h
  simp only [strOfNums_data] at h2
  have h3 : ((WalkBack2.nums s j b).map fun n => UInt8.ofNat n.toNat).getD j 0 = UInt8.ofNat (bits .xor .u8 ((s.data.toList.getD j 0).toNat) b).toNat := by
    simp [WalkBack2.nums, List.getD_eq_getElem?_getD, List.getElem?_map, hj]
  rw [h3] at h2
  generalize (s.data.toList.getD j 0).toNat = a at *
  obtain ⟨g1, g2, g3⟩ := hx
  generalize bits .xor .u8 (a : Int) (b : Int) = v at *
  simp at h2
  omega

theorem ImageBack (C D : ByteArray) (g e f at1 by1 : Int) (w : World) (hC : C.size ≤ 9223372036854775807) (hD : D.size ≤ 9223372036854775807) (b0 : 0 ≤ by1) (b1 : by1 ≤ 255) :
    Calls Try.prog 5 #[.agg #[.string C, .string D, .int .i64 g, .int .i64 e, .int .i64 f], .int .i64 at1, .int .u8 by1] w fun x w' => x = .returned (.bool true) ∧ Below w.heap.size w w' := by
  have hT := (told_both C D g e f hC hD).1
  rcases ht : told C D g e f with ⟨s, c⟩
  rw [ht] at hT
  by_cases hc : c = 0
  · subst hc
    obtain ⟨hg, p1, p2, p3, p4, p5, hs1, hs2⟩ := Parse.tells_good C D s g e f hC hD ht
    have hR := (good s hg).1
    rw [p1, p2, p3, p4, p5] at hR
    by_cases hat : at1 < 0 ∨ (s.size : Int) ≤ at1 ∨ by1 = 0
    · exact WalkBack.stay C D s g e f at1 by1 w hs2 hat hT hR
    · obtain ⟨j, rfl⟩ : ∃ j : Nat, at1 = j := ⟨at1.toNat, by omega⟩
      have hj : j < s.size := by omega
      have hby : (by1 == 0) = false := beq_eq_false_iff_ne.2 (by omega)
      rcases Parse.other C D s (strOfNums (WalkBack2.nums s j by1)) g e f (changed_size s j by1) (changed_ne s j hj by1 b0 b1 hby) hC hD ht with ⟨c, hc, h3⟩ | ⟨C', D', g', e', f', h3, h4, hC', hD', hne⟩
      · exact WalkBack2.refuses C D s g e f by1 c j w hs2 hj (beq_eq_false_iff_ne.2 hc) hby hT hR h3.1
      · have h5 := (told_both C' D' g' e' f' hC' hD').1
        rw [h4] at h5
        refine WalkBack2.tells C D s g e f by1 C' D' g' e' f' j w hs2 hj ?_ hby hT hR h3.1 h5
        have hl : ∀ a b : ByteArray, a.toList = b.toList → a = b := fun a b h => by
          rw [ByteArray.toList_eq, ByteArray.toList_eq] at h
          apply ByteArray.ext; exact Array.toList_inj.1 h
        rw [Bool.eq_false_iff]
        intro h
        simp only [Bool.and_eq_true, beq_iff_eq] at h
        exact hne ⟨hl _ _ h.1, hl _ _ h.2.1, h.2.2.1, h.2.2.2.1, h.2.2.2.2⟩
  · have h0 := Parse.tells_none C D s g e f c hC hD ht hc
    obtain rfl : s = ⟨#[]⟩ := by apply ByteArray.ext; exact Array.eq_empty_of_size_eq_zero h0
    exact WalkBack.no C D g e f at1 by1 c w (beq_eq_false_iff_ne.2 hc) hT

end Go.Proofs.Ytbalpmpaccfpiaa.LawBack
