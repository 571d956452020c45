/- The machine's New. -/
import Derived.Test.YtbhkfdjofopfkaaMaQ
namespace Go.Proofs.Ytbhkfdjofopfkaa.MemA
open Go.RowKit Go.Proofs.YtbhkfdjofopfkaaW.PrintWords Go.Proofs.YtbhkfdjofopfkaaW.PrintLast
set_option linter.unusedVariables false
set_option linter.unusedSimpArgs false
theorem setCells_below {B h : Nat} (hB : B ≤ h) {w0 : World} : ∀ (vs : List Value) (a : Nat) (w : World), Below B w0 w → Below B w0 (w.setCells h a vs)
  | [], _, _, hb => hb
  | v :: vs, a, w, hb => setCells_below hB vs (a + 1) _ (hb.setCell (p := ⟨h, a, none⟩) hB v)
theorem fillP {w : World} {g h : Nat} {b : List Int} (m : Aside0 (Mem 94 w g h b)) (s : ByteArray) (hn : b.length ≤ 262144) (h0 : b.length ≠ 0) (hlt : s.size ≤ b.length) :
    Calls Try.prog 29 #[.pointer (some ⟨g, 0, none⟩), .int .u32 0, .string s] w fun e w' => e = .returned (.int .i64 0) ∧ Mem 94 w' g h (lay b 0 (bytesOf s)) ∧ Below h w w' :=
  (fill_yes m (a := 0) s hn (by omega) (by omega) h0 (by omega)).mono fun e w' ⟨h1, h2⟩ => ⟨h1, by rw [h2]; exact Mem.puts _ _ _ _ m.out, by rw [h2]; exact setCells_below (Nat.le_refl _) _ _ _ (Below.refl _ _)⟩
theorem newMem (w : World) : Calls Try.prog 28 #[.int .i64 262144] w (Made 94 262144 w) := new_yes (n := 262144) (by omega) (by omega)
theorem lay_byte : ∀ (l : List Int) (a : Nat) (b : List Int), (∀ i, 0 ≤ b.getD i 0 ∧ b.getD i 0 ≤ 255) → (∀ x ∈ l, 0 ≤ x ∧ x ≤ 255) → ∀ i, 0 ≤ (lay b a l).getD i 0 ∧ (lay b a l).getD i 0 ≤ 255
  | [], _, _, hb, _ => hb
  | x :: l, a, b, hb, hl => by
    unfold lay
    exact lay_byte l (a + 1) _ (byte_set hb a x (hl x (by simp)).1 (hl x (by simp)).2) (fun y hy => hl y (by simp [hy]))
theorem bytesOf_bd (s : ByteArray) : ∀ x ∈ bytesOf s, 0 ≤ x ∧ x ≤ 255 := by
  intro x hx
  unfold bytesOf at hx
  obtain ⟨y, _, rfl⟩ := List.mem_map.1 hx
  have := y.toNat_lt
  omega
/-- A machine at its beginning. -/
def Mc.init (c d : ByteArray) (g e f : Int) (inp : ByteArray) : Mc := ⟨c, d, g, e, f, (List.replicate 16 0).set 15 262144, e, inp, 0, [], false, 0, 0, 0, lay (List.replicate 262144 0) 0 (bytesOf d)⟩
theorem init_ok {c d : ByteArray} {g e f : Int} {inp : ByteArray} (h : mayI c d g e f = true) (hi : inp.size ≤ 1048576) : (Mc.init c d g e f inp).Ok := by
  simp only [mayI, decide_eq_true_eq] at h
  obtain ⟨⟨c1, c2, c3⟩, ⟨g1, g2, g3⟩, ⟨e1, e2, e3⟩, f1, f2⟩ := h
  refine ⟨(by rfl : ((List.replicate 16 (0 : Int)).set 15 262144).length = 16), fun i => ?_, ?_, ?_, Nat.zero_le _, hi, c2, ?_, c3⟩
  · show 0 ≤ ((List.replicate 16 (0 : Int)).set 15 262144).getD i 0 ∧ ((List.replicate 16 (0 : Int)).set 15 262144).getD i 0 ≤ 4294967295
    by_cases hi : i < 16
    · have : ∀ j, j < 16 → 0 ≤ ((List.replicate 16 (0 : Int)).set 15 262144).getD j 0 ∧ ((List.replicate 16 (0 : Int)).set 15 262144).getD j 0 ≤ 4294967295 := by decide
      exact this i hi
    · have hz : ((List.replicate 16 (0 : Int)).set 15 262144).getD i 0 = 0 := by rw [List.getD_eq_getElem?_getD, List.getElem?_eq_none (by rw [List.length_set, List.length_replicate]; omega)]; rfl
      rw [hz]; omega
  · show (lay (List.replicate 262144 0) 0 (bytesOf d)).length = 262144
    rw [lay_length, List.length_replicate]
  · refine lay_byte _ _ _ (fun i => ?_) (bytesOf_bd d)
    rw [List.getD_eq_getElem?_getD, List.getElem?_replicate]
    split <;> simp
  · show -17179869184 ≤ e ∧ e ≤ 17179869184
    omega
end Go.Proofs.Ytbhkfdjofopfkaa.MemA
