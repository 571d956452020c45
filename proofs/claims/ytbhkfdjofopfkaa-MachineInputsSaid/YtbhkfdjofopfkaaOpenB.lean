/- Two numbers, or two texts, that came in as an array by value. -/
import Derived.Test.YtbhkfdjofopfkaaOpen
import Derived.Test.YtbhkfdjofopfkaaOpn
namespace Go.Proofs.Ytbhkfdjofopfkaa.Open
open Go.Proofs.YtbhkfdjofopfkaaW.PrintWords Go.ChangeShapes Go.WideShapes Go.ChangeAt Go.RowKit Go.Joins Go.Deep
theorem okWide_array {P : Program} {w : World} {r : Reach} {base n : Nat} {t e : TypeId} {v : Value} (ht : P.underlying t = some (.array n e)) (h : Value.okWide P w r base t v) : ∃ cs, v = .agg cs ∧ cs.size = P.cellsOf t := by
  simp only [Value.okWide, ht] at h
  obtain ⟨cs, h1, h2, _⟩ := h
  exact ⟨cs, h1, h2⟩
/-- An array of two whose elements lie in one cell each: the two, and each one's own reading. -/
theorem two {H : Type} {enc : TypeId × Value → H} {P : Program} {w : World} {base : Nat} {spare : Nat → Bool} {held : Bool} {r : Reach} {b0 : Nat} {t e : TypeId} {v : Value} {d : DataW H} {p : List MemPlace}
    (ht : P.underlying t = some (.array 2 e)) (he : P.cellsOf e = 1) (hC : P.cellsOf t = 2) (hv : Value.okWide P w r b0 t v) (h : DataW.Trod enc P w base spare held t v d p) :
    ∃ (u0 u1 : Value) (n : Nat) (y0 y1 : DataW H × List MemPlace), v = .agg #[u0, u1] ∧ d = .agg [y0.1, y1.1] ∧ DataW.trod enc P w base spare held n e [u0] = some y0 ∧ DataW.trod enc P w base spare held n e [u1] = some y1 := by
  obtain ⟨⟨l⟩, rfl, hsz⟩ := okWide_array ht hv
  obtain ⟨fuel, hf⟩ := h
  obtain ⟨xs, n, _, hx, _, hlen, hg⟩ := DataW.trod_array ht hf
  have hl : l.length = 2 := hsz.trans hC
  match l, hl, xs, hlen with
  | [u0, u1], _, [y0, y1], _ =>
    have g0 := hg 0 (by omega)
    have g1 := hg 1 (by omega)
    rw [he] at g0 g1
    exact ⟨u0, u1, n, y0, y1, rfl, (Prod.mk.inj hx).1, g0, g1⟩
set_option maxRecDepth 100000 in
theorem nums {H : Type} {enc : TypeId × Value → H} {w : World} {base : Nat} {spare : Nat → Bool} {held : Bool} {r : Reach} {b0 : Nat} {v : Value} {d : DataW H} {p : List MemPlace}
    (hv : Value.okWide Try.prog w r b0 34 v) (h : DataW.Trod enc Try.prog w base spare held 34 v d p) :
    ∃ (a b : Int), v = .agg #[.int .u16 a, .int .u16 b] ∧ 0 ≤ a ∧ a ≤ 65535 ∧ 0 ≤ b ∧ b ≤ 65535 := by
  obtain ⟨u0, u1, n, y0, y1, rfl, hd, t0, t1⟩ := two (e := 32) (by kernel_rfl) (by kernel_rfl) (by kernel_rfl) hv h
  obtain ⟨a, e0, _, z0⟩ := DataW.trod_int Try.underlying32 t0
  obtain ⟨b, e1, _, z1⟩ := DataW.trod_int Try.underlying32 t1
  simp only [List.cons.injEq, and_true] at e0 e1
  subst e0 e1
  have q0 := Opn.u16 z0
  have q1 := Opn.u16 z1
  exact ⟨a, b, rfl, q0.1, q0.2, q1.1, q1.2⟩
theorem weights_two {H : Type} {P : Program} {t e : TypeId} (ht : P.underlying t = some (.array 2 e)) (a b : DataW H) : DataW.weights P t (.agg [a, b]) = DataW.weights P e a ++ (DataW.weights P e b ++ []) := by
  rw [DataW.weights, ht]
  simp only [DataW.weightsAll]
set_option maxRecDepth 100000 in
theorem texts {H : Type} {enc : TypeId × Value → H} {w : World} {base : Nat} {spare : Nat → Bool} {held : Bool} {r : Reach} {b0 : Nat} {v : Value} {d : DataW H} {p : List MemPlace}
    (hv : Value.okWide Try.prog w r b0 31 v) (h : DataW.Trod enc Try.prog w base spare held 31 v d p) (hw : ∀ n ∈ DataW.weights Try.prog 31 d, n ≤ reachBytes) :
    ∃ (a b : ByteArray), v = .agg #[.string a, .string b] ∧ a.size ≤ 140737488351232 ∧ b.size ≤ 140737488351232 := by
  have ht : Try.prog.underlying 31 = some (.array 2 9) := by kernel_rfl
  obtain ⟨u0, u1, n, y0, y1, rfl, hd, t0, t1⟩ := two (e := 9) ht (by kernel_rfl) (by kernel_rfl) hv h
  have e : DataW.weights Try.prog 31 d = DataW.weights Try.prog 9 y0.1 ++ (DataW.weights Try.prog 9 y1.1 ++ []) := by
    rw [hd]
    exact weights_two ht _ _
  rw [e] at hw
  obtain ⟨a, ha, za⟩ := Opn.string Try.underlying9 enc w base spare held n [u0] y0 t0 (fun q hq => hw q (List.mem_append_left _ hq))
  obtain ⟨b, hb, zb⟩ := Opn.string Try.underlying9 enc w base spare held n [u1] y1 t1 (fun q hq => hw q (List.mem_append_right _ (List.mem_append_left _ hq)))
  have ea : u0 = .string a := by simpa [Kd.string, Kd.scalar] using ha
  have eb : u1 = .string b := by simpa [Kd.string, Kd.scalar] using hb
  subst ea eb
  exact ⟨a, b, rfl, za, zb⟩
end Go.Proofs.Ytbhkfdjofopfkaa.Open
