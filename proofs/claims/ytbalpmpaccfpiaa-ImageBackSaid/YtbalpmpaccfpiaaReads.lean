/- What an image's bytes tell: their beginning, and how many bytes its data has. -/
import Derived.Test.YtbalpmpaccfpiaaNumber
import Derived.Test.YtbalpmpaccfpiaaLaw1
namespace Go.Proofs.Ytbalpmpaccfpiaa.Reads
open Go.RowKit Go.Proofs.Ytbalpmpaccfpiaa.Number Go.Proofs.Ytbalpmpaccfpiaa.Write Go.Proofs.YtbalpmpaccfpiaaW.PrintWords
set_option linter.unusedVariables false

theorem bt_nums (xs : List Int) (s : ByteArray) (k : Nat) (hk : k < xs.length) (hx : 0 ≤ xs[k] ∧ xs[k] ≤ 255) : bt (strOfNums xs ++ s) (k : Int) = xs[k] := by
  have h1 : (strOfNums xs).size = xs.length := by simp [strOfNums, ByteArray.size]
  unfold bt
  rw [dif_pos (by rw [ByteArray.size_append]; simp; omega)]
  simp only [Int.toNat_natCast]
  rw [ByteArray.getElem_append_left (by omega)]
  have : ((strOfNums xs)[k]'(by omega)) = UInt8.ofNat (xs[k]).toNat := by simp [strOfNums, ByteArray.getElem_eq_getElem_data]
  rw [this]
  simp
  omega

theorem img_W8 (C D : ByteArray) (g e f u : Int) : W (img C D g e f u) 8 = (D.size : Int) % 4294967296 := by
  have key : ∀ k : Nat, 8 ≤ k → k < 12 → bt (img C D g e f u) (k : Int) = (le4 ((D.size : Int) % 4294967296)).getD (k - 8) 0 := by
    intro k h1 h2
    unfold img
    rw [ByteArray.append_assoc]
    have hl := ahead_length [(C.size : Int) % 4294967296, (D.size : Int) % 4294967296, g % 4294967296, e % 4294967296, f % 4294967296, u] 6 (by simp)
    have hg : ∀ hk, (Write.ahead [(C.size : Int) % 4294967296, (D.size : Int) % 4294967296, g % 4294967296, e % 4294967296, f % 4294967296, u] 6)[k]'hk = (le4 ((D.size : Int) % 4294967296)).getD (k - 8) 0 := by
      intro hk
      have : k = 8 ∨ k = 9 ∨ k = 10 ∨ k = 11 := by omega
      rcases this with rfl | rfl | rfl | rfl <;> rfl
    rw [bt_nums _ _ k (by omega) (by
      rw [hg]
      have : k = 8 ∨ k = 9 ∨ k = 10 ∨ k = 11 := by omega
      rcases this with rfl | rfl | rfl | rfl <;> simp [le4] <;> omega), hg]
  rw [W_eq]
  have k8 := key 8 (by omega) (by omega)
  have k9 := key 9 (by omega) (by omega)
  have k10 := key 10 (by omega) (by omega)
  have k11 := key 11 (by omega) (by omega)
  rw [show (8 : Int) + 1 = ((9 : Nat) : Int) from rfl, show (8 : Int) + 2 = ((10 : Nat) : Int) from rfl, show (8 : Int) + 3 = ((11 : Nat) : Int) from rfl, show (8 : Int) = ((8 : Nat) : Int) from rfl, k8, k9, k10, k11]
  simp [le4]
  omega

theorem img_magic (C D : ByteArray) (g e f u : Int) : ((img C D g e f u).extract 0 4).toList = [82, 51, 50, 10] := by
  rw [ByteArray.toList_eq]
  unfold img
  simp [strOfNums, Write.ahead, ByteArray.data_extract, ByteArray.data_append]

end Go.Proofs.Ytbalpmpaccfpiaa.Reads
